/- Part 25 of the proof. -/
import Derived.Test.YtbbppkkhidkjpaaGreatDoorM21
import Derived.Test.YtbbppkkhidkjpaaGreatDoorM22
import Derived.Test.YtbbppkkhidkjpaaGreatDoorM08
set_option linter.unusedSimpArgs false
set_option linter.unusedVariables false
set_option maxHeartbeats 8000000
namespace Go.Proofs.YtbbppkkhidkjpaaGreatDoor
section
open Go Go.RowKit Go.BigFrame
namespace Sx
attribute [local irreducible] DQ DQS WC WO WX wd
theorem yS (B:List Nat) (x c:Nat) (p:Option Addr) (hl:B.length≤274877906944) :
  Fn Tryz.prog 45 [.slice p B.length c,zf x] (fun w=>Rd (.slice p B.length c) B.length (byC B) w) (aax 5 (B++be 32 x)):=by
 have hP:=fun (X:List Nat) k c p (h:X.length≤549755813888)=>dk X (wd k x) 8 c p (by decide) (by decide) (yg _ _) h;have hT:B++be 32 x=B++be 8 (wd 3 x)++be 8 (wd 2 x)++be 8 (wd 1 x)++be 8 (wd 0 x):=by
  rw[← d5];simp[beL]
 rw[hT];have l3:(B++be 8 (wd 3 x)).length=B.length+8:=by rw[List.length_append,zj]
 have l2:(B++be 8 (wd 3 x)++be 8 (wd 2 x)).length=B.length+16:=by rw[List.length_append,zj,l3]
 have l1:(B++be 8 (wd 3 x)++be 8 (wd 2 x)++be 8 (wd 1 x)).length=B.length+24:=by rw[List.length_append,zj,l2]
 have p0:=hP B 3 c p (by omega);have p1:=fun g c=>hP (B++be 8 (wd 3 x)) 2 c (some ⟨g,0,none⟩) (by omega);have p2:=fun g c=>hP (B++be 8 (wd 3 x)++be 8 (wd 2 x)) 1 c (some ⟨g,0,none⟩) (by omega);have p3:=fun g c=>hP (B++be 8 (wd 3 x)++be 8 (wd 2 x)++be 8 (wd 1 x)) 0 c (some ⟨g,0,none⟩) (by omega);clear hP hT;generalize B++be 8 (wd 3 x)++be 8 (wd 2 x)++be 8 (wd 1 x)++be 8 (wd 0 x)=X0 at *;generalize B++be 8 (wd 3 x)++be 8 (wd 2 x)++be 8 (wd 1 x)=X1 at *;generalize B++be 8 (wd 3 x)++be 8 (wd 2 x)=X2 at *;generalize B++be 8 (wd 3 x)=X3 at *;refine Fn.enter Tryz.func45 rfl rfl rfl ?_;intro w hw
 repeat (first|refine WX.rounds ?_|refine WC.loopU 4 ?_|refine Ta ?_|(refine Tm ?_;intro _)|refine Tc ?_|exact Tz)
 refine WO.acallZ (hc:=p0) (hR:=fun w1 hm=>hw.rds.rd hm) (hm:=rfl) (k:=fun g1 c1 r1 h1 h1'=>?_)
 repeat (first|refine WX.rounds ?_|refine Ta ?_|(refine Tm ?_;intro _)|refine Tc ?_|exact Tz)
 refine WO.acallZ (hc:=p1 g1 c1) (hR:=fun w1 hm=>uU hm Hs.here h1 h1') (hm:=rfl) (k:=fun g2 c2 r2 h2 h2'=>?_)
 repeat (first|refine WX.rounds ?_|refine Ta ?_|(refine Tm ?_;intro _)|refine Tc ?_|exact Tz)
 refine WO.acallZ (hc:=p2 g2 c2) (hR:=fun w1 hm=>uU hm Hs.here h2 h2') (hm:=rfl) (k:=fun g3 c3 r3 h3 h3'=>?_)
 repeat (first|refine WX.rounds ?_|refine Ta ?_|(refine Tm ?_;intro _)|refine Tc ?_|exact Tz)
 refine WO.acallZ (hc:=p3 g3 c3) (hR:=fun w1 hm=>uU hm Hs.here h3 h3') (hm:=rfl) (k:=fun g4 c4 r4 h4 h4'=>?_)
 repeat (first|refine WX.rounds ?_|refine Ta ?_|(refine Tm ?_;intro _)|refine Tc ?_|exact Tz)
 exact WX.retZ h4 h4' rfl
theorem ad3 (B:List Nat) (n c b o:Nat) (hB:∀ b∈B,b<256) (hn:8≤n) (hBn:n≤B.length) (hc:n≤c) (hc2:c<9223372036854775808) :
  Fn Tryz.prog 217 [.slice (some ⟨b,o,none⟩) n c,.int .i64 8] (fun w=>Seg w b o (byC B)) (Is (.tuple #[.int .u64 ((beV (B.take 8):Nat):Int),.int .i64 0])):=by
 have hle:decide ((n:Int)<8)=false:=decide_eq_false (by omega);refine Fn.enter Tryz.func217 rfl rfl rfl ?_;intro w hw
 repeat (first|refine Tw ?_|(refine Tm ?_;intro _)|exact Tz)
 rw[hle]
 repeat (first|refine Tw ?_|(refine Tm ?_;intro _)|exact Tz)
 refine WC.loopI (σ:=Nat) (fun i=>i≤8) (fun i=>[(0,.slice (some ⟨b,o,none⟩) n c),(1,.int .i64 8),(6,.int .u64 ((beV (B.take i):Nat):Int)),(7,.int .i64 (i:Int))]) (fun _=>[]) (fun i=>8 - i) 0 (fun i hi=>?_) (Nat.zero_le _)
 try dsimp only at hi ⊢
 by_cases hlt:i<8
 ·have hi2:i<B.length:=by omega
  have hget:(byC B)[o+i - o]?=some (.int .u8 ((B[i]:Nat):Int)):=by rw[Nat.add_sub_cancel_left];exact nW hi2
  have hb:B[i] < 256:=hB _ (List.getElem_mem hi2);have hv:beV (B.take i)<72057594037927936:=by
   have h1:=mO (u9 hB i);have h2:(B.take i).length≤7:=by rw[List.length_take];omega
   exact Nat.lt_of_lt_of_le h1 (Nat.pow_le_pow_right (n:=256) (by omega) h2)
  have hnext:beV (B.take i)*256+B[i]=beV (B.take (i+1)):=by rw[List.take_succ_eq_append_getElem hi2,jS]
  have hm:=kb (beV (B.take i)) 256 (by omega);have ha:=uy (beV (B.take i)*256) B[i] (by omega);have hcv:IntKind.u64.wrap ((B[i]:Nat):Int)=((B[i]:Nat):Int):=u64_in (by omega) (by omega);rw[hnext] at ha;generalize hV:beV (B.take (i+1))=V' at *;generalize beV (B.take i)=V at *;generalize B[i]=z at *
  repeat (first|refine Tw ?_|(refine Tm ?_;intro _)|exact Tz)
  refine WC.dT rfl (by omega) ?_
  repeat (first|refine Ta ?_|(refine Tm ?_;intro _)|refine WO.does (z6 rfl rfl hm) ?_|refine WO.does (zu rfl hcv) ?_|refine WO.does (zh rfl rfl ha) ?_|refine Tc ?_|exact Tz)
  refine WX.metI (i+1) (hk:=(by repeat (first|exact Kle.nil|refine Kle.cons rfl (by first|rfl|(rw[hV])) ?_))) (hs:=⟨by show i+1≤8;omega,by show 8 - (i+1)<8 - i;omega⟩)
 ·have hi8:i=8:=by omega
  have hv:beV (B.take i)=beV (B.take 8):=by rw[hi8]
  rw[hv];generalize beV (B.take 8)=V
  repeat (first|refine Tw ?_|(refine Tm ?_;intro _)|exact Tz)
  refine WC.dF rfl (by omega) ?_
  repeat (first|refine Tw ?_|(refine Tm ?_;intro _)|exact Tz)
theorem mJ (B:List Nat) (b o:Nat) (hB:∀ b∈B,b<256) (hl:B.length=32) :
  Fn Tryz.prog 195 [.slice (some ⟨b,o,none⟩) 32 32] (fun w=>Seg w b o (byC B)) (Is (.tuple #[zf (beV B),.int .i64 0])):=by
 have hG:=fun l (h:l≤24)=>ad3 (B.drop l) (32 - l) (32 - l) b (o+l) (yz hB l) (by omega) (by rw[List.length_drop];omega) (by omega) (by omega);have hS:=fun l (w:World) (h:Seg w b o (byC B))=>h.sub (k:=l) (m:=32) (vs:=byC (B.drop l)) (by rw[cut,tv,List.take_of_length_le];rw[zd,List.length_drop];omega);have hend:Value.agg #[.int .u64 ((beV ((B.drop 24).take 8):Nat):Int),.int .u64 ((beV ((B.drop 16).take 8):Nat):Int),.int .u64 ((beV ((B.drop 8).take 8):Nat):Int),.int .u64 ((beV ((B.drop 0).take 8):Nat):Int)]=zf (beV B):=by
  rw[uT (td (yz hB _) 0) (td (yz hB _) 0) (td (yz hB _) 0) (td (yz hB _) 0),mw hl]
 have h0:=hG 0 (by decide);have h1:=hG 8 (by decide);have h2:=hG 16 (by decide);have h3:=hG 24 (by decide);rw[← hend];clear hend hG;generalize beV ((B.drop 0).take 8)=d0 at *;generalize beV ((B.drop 8).take 8)=d1 at *;generalize beV ((B.drop 16).take 8)=d2 at *;generalize beV ((B.drop 24).take 8)=d3 at *;simp only[Nat.reduceSub] at h0 h1 h2 h3;refine Fn.enter Tryz.func195 rfl rfl rfl ?_;intro w hw;have hw0:=hS 0 w hw;have hw1:=hS 8 w hw;have hw2:=hS 16 w hw;have hw3:=hS 24 w hw;clear hS
 repeat (first|refine WX.rounds ?_|refine WC.loopU 4 ?_|refine Ta ?_|(refine Tm ?_;intro _)|refine WO.does (zW (l:=0) rfl rfl (by decide) (by decide) rfl) ?_|refine WO.acallR (hc:=h0) (hR:=fun w' hm=>hw0.mod hm.mod (by simp)) (k:=?_)|refine Tc ?_|exact Tz)
 repeat (first|refine WX.rounds ?_|refine Ta ?_|(refine Tm ?_;intro _)|refine WO.does (zW (l:=8) rfl rfl (by decide) (by decide) rfl) ?_|refine WO.acallR (hc:=h1) (hR:=fun w' hm=>hw1.mod hm.mod (by simp)) (k:=?_)|refine Tc ?_|exact Tz)
 repeat (first|refine WX.rounds ?_|refine Ta ?_|(refine Tm ?_;intro _)|refine WO.does (zW (l:=16) rfl rfl (by decide) (by decide) rfl) ?_|refine WO.acallR (hc:=h2) (hR:=fun w' hm=>hw2.mod hm.mod (by simp)) (k:=?_)|refine Tc ?_|exact Tz)
 repeat (first|refine WX.rounds ?_|refine Ta ?_|(refine Tm ?_;intro _)|refine WO.does (zW (l:=24) rfl rfl (by decide) (by decide) rfl) ?_|refine WO.acallR (hc:=h3) (hR:=fun w' hm=>hw3.mod hm.mod (by simp)) (k:=?_)|refine Tc ?_|exact Tz)
theorem oc (B X:List Nat) (p q:Option Addr) (c d:Nat) (hB:B.length≤274877906944) (hX:X.length≤274877906944) :
  Fn Tryz.prog 154 [.slice p B.length c,.slice q X.length d] (fun w=>Rd (.slice p B.length c) B.length (byC B) w∧Rd (.slice q X.length d) X.length (byC X) w)
   (adC 5 (byC (B++be 4 X.length++X))):=by
 have h4:=dk B X.length 4 c p (by decide) (by decide) (by omega) (by omega);have hl:(B++be 4 X.length).length=B.length+4:=by rw[List.length_append,zj]
 have hu:IntKind.u64.wrap ((X.length:Nat):Int)=((X.length:Nat):Int):=u64_in (by omega) (by omega);rw[zp];refine Fn.enter Tryz.func154 rfl rfl rfl ?_;intro w hw;obtain⟨hw1,hw2⟩:=hw
 repeat (first|refine Ta ?_|(refine Tm ?_;intro _)|refine WO.does (zu rfl hu) ?_|refine Tc ?_|exact Tz)
 refine WO.acallA (hc:=Fn.newZ h4) (hR:=fun w1 hm=>hw1.rds.rd hm) (hm:=zd _) (k:=fun g c1 r h1 h2=>?_)
 repeat (first|refine Tw ?_|(refine Tm ?_;intro _)|exact Tz)
 refine WO.appB (g:=g) (xs:=byC (B++be 4 X.length)) (r:=r) (ys:=byC X) (m:=X.length) (l:=(B++be 4 X.length).length+X.length) rfl rfl (zd _) h1 Pk.here hw2.rds (zd _) (yF _) rfl (by omega) h2 (by omega) (by decide) (by decide) (fun g' c' r' hd1 hd2=>?_)
 repeat (first|refine Tw ?_|(refine Tm ?_;intro _)|exact Tz)
 exact WX.retA hd1 hd2 (by rw[List.length_append,zd,zd])
end Sx
end
end Go.Proofs.YtbbppkkhidkjpaaGreatDoor
