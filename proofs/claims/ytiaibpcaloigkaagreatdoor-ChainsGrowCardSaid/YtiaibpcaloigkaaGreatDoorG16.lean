/- Part 16 of the proof. -/
import Derived.Test.YtiaibpcaloigkaaGreatDoorG14
set_option linter.unusedSimpArgs false
set_option linter.unusedVariables false
set_option maxHeartbeats 8000000
namespace Go.Proofs.YtiaibpcaloigkaaGreatDoor
section
open Go Go.RowKit
namespace Sx
attribute [local irreducible] DQ WC WO WX
theorem vq {a j:Nat} (h:j<4):(zc a)[j]?=some (.int .u64 ((wd j a:Nat):Int)):=by
 match j,h with
 | 0,_=>rfl
 | 1,_=>rfl
 | 2,_=>rfl
 | 3,_=>rfl
end Sx
end
section
open Go Go.RowKit Go.BigFrame
namespace Sx
attribute [local irreducible] DQ WC WO WX wd
theorem Lle.same:∀ {L:List Ent},Lle L L
 | []=>trivial
 | _::_=>⟨_,_,.here,rfl,Lle.same⟩
theorem Lle.skip {e:Ent} {L:List Ent}:∀ {L' : List Ent},Lle L' L→Lle L' (e::L)
 | [],_=>trivial
 | _::_,⟨cs,L1,h1,h2,h3⟩=>⟨cs,e::L1,.there h1,h2,Lle.skip h3⟩
end Sx
end
section
open Go Go.RowKit
namespace Sx
attribute [local irreducible] DQ WC WO WX wd
theorem agN (B W:LN) (wd c cw:Nat) (p:Option Addr) (bw ow:Nat) (h8:wd≤8) (hl:B.length+W.length*wd≤1099511627776) (hWl:W.length≤1099511627776) :
  Fn Tryz.prog 102 [.slice p B.length c,.int .i64 (wd:Int),.slice (some ⟨bw,ow,none⟩) W.length cw] (fun w=>Rd (.slice p B.length c) B.length (byC B) w∧Seg w bw ow (woC W))
   (az 5 (B++beL wd W).length (byC (B++beL wd W))):=by
 have hT:(B++beL wd W).length=B.length+W.length*wd:=by rw[List.length_append,fh]
 have hmul:IntKind.i64.wrap ((wd:Int)*(W.length:Int))=((W.length*wd:Nat):Int):=by
  rw[Int.mul_comm,← Int.natCast_mul];exact i64_in Om Om
 have hadd:IntKind.i64.wrap ((B.length:Int)+((W.length*wd:Nat):Int))=(((B++beL wd W).length:Nat):Int):=by
  rw[← Int.natCast_add,hT];exact i64_in Om Om
 generalize hTT:B++beL wd W=T at *;refine Fn.enter Tryz.func102 rfl rfl rfl ?_;intro w hw;obtain⟨hB,hW⟩:=hw
 repeat (first|refine Td ?_|(refine Tm ?_;intro _)|refine WO.does (ym rfl rfl hmul) ?_|refine WO.does (zi rfl rfl hadd) ?_|(refine WO.makes (yp rfl rfl (by rw[hT];omega) (by rw[hT];omega) (by rw[hT];omega)) ?_;intro _)|refine WO.both (qo (st:=126) rfl rfl rfl hB.rds (by rw[zd,Nat.mul_one]) (m:=B.length) Sm (ys:=byC B) (by rw[Nat.mul_one,← zd,List.take_length]) (zM B) .here (cs':=pad T B.length) (by rw[rR,← hTT];exact aar B _) (by rw[rR,List.length_replicate,zd,hT];omega) Dtt) ?_|refine Tc ?_|exact Tz)
 rename_i g
 refine WC.loopI (σ:=Nat) (fun i=>i≤W.length) (fun i=>[(1,.int .i64 (wd:Int)),(7,AQ g (B.length+i*wd) T.length),(24,.slice (some ⟨bw,ow,none⟩) W.length cw),(25,.int .i64 (W.length:Int)),(26,.int .i64 (i:Int))])
  (fun i=>[⟨g,5,pad T (B.length+i*wd)⟩]) (fun i=>W.length - i) 0 (fun i hi=>?_) (Nat.zero_le _) (by
   rw[Nat.zero_mul,Nat.add_zero]
   repeat (first|exact Kle.nil|refine Kle.cons rfl rfl ?_)) (by
   rw[Nat.zero_mul,Nat.add_zero]
   repeat (first|exact Lle.nil|refine Lle.c ?_))
 try dsimp only at hi ⊢
 by_cases hlt:i<W.length
 ·have hge:i*wd+wd≤W.length*wd:=by have:=Nat.mul_le_mul_right wd (Nat.succ_le_of_lt hlt);rwa [Nat.succ_mul] at this
  have hget:(woC W)[ow+i - ow]?=some (.int .u64 ((W[i]:Nat):Int)):=by rw[Nat.add_sub_cancel_left];exact acZ hlt
  repeat (first|refine Td ?_|(refine Tm ?_;intro _)|refine Tc ?_|exact Tz)
  refine WC.dT rfl Om ?_
  repeat (first|refine Td ?_|(refine Tm ?_;intro _)|refine Tc ?_|exact Tz)
  refine WC.loopI (σ:=Nat) (fun j=>j≤wd) (fun j=>[(1,.int .i64 (wd:Int)),(7,AQ g (B.length+i*wd+j) T.length),(9,.int .u64 ((W[i]:Nat):Int)),(24,.slice (some ⟨bw,ow,none⟩) W.length cw),(25,.int .i64 (W.length:Int)),(26,.int .i64 (i:Int)),(30,.int .i64 (wd:Int)),(31,.int .i64 (j:Int))])
   (fun j=>[⟨g,5,pad T (B.length+i*wd+j)⟩]) (fun j=>wd - j) 0 (fun j hj=>?_) (Nat.zero_le _)
  try dsimp only at hj ⊢
  by_cases hlj:j<wd
  ·have hTg:T[B.length+i*wd+j]?=some (W[i] / 2 ^ (8*(wd - 1 - j))%256):=by
    rw[← hTT,List.getElem?_append_right Om,show B.length+i*wd+j - B.length=i*wd+j by omega];exact lE hlj hlt
   have h40:IntKind.i64.wrap (8*((wd:Int) - 1 - (j:Int)))=((8*(wd - 1 - j):Nat):Int):=by
    rw[show (8*((wd:Int) - 1 - (j:Int)))=((8*(wd - 1 - j):Nat):Int) by omega];exact i64_in Om Om
   repeat (first|refine Td ?_|(refine Tm ?_;intro _)|refine Tc ?_|exact Tz)
   refine WC.dT rfl Om ?_
   repeat (first|refine Td ?_|(refine Tm ?_;intro _)|refine WO.does (ym rfl rfl h40) ?_|refine WO.does (vo rfl rfl Om (u5 (by show 8*(wd - 1 - j)≤64;omega))) ?_|refine WO.does (zr rfl (d8 _)) ?_|(refine WO.makes (zh (cs:=[.int .u8 ((W[i] / 2 ^ (8*(wd - 1 - j))%256:Nat):Int)]) rfl Dtt rfl) ?_;intro g2)|refine Tc ?_|exact Tz)
   refine WO.both (pI (n:=1) (xs:=[.int .u8 ((W[i] / 2 ^ (8*(wd - 1 - j))%256:Nat):Int)]) rfl rfl (Rds.own (m:=1) Hs.here rfl) rfl Om rfl (Rp.there Rp.here) (ie hTg) (by rw[qZ Om];omega) Dtt rfl) ?_
   repeat (first|refine Td ?_|(refine Tm ?_;intro _)|refine Tc ?_|exact Tz)
   refine WX.metI (j+1) (hs:=⟨by show j+1≤wd;omega,by show wd - (j+1)<wd - j;omega⟩)
  ·have:j=wd:=by omega
   subst this;rw[show B.length+i*j+j=B.length+(i+1)*j by rw[Nat.succ_mul];omega]
   repeat (first|refine Td ?_|(refine Tm ?_;intro _)|refine Tc ?_|exact Tz)
   refine WC.dF rfl Om ?_
   repeat (first|refine Td ?_|(refine Tm ?_;intro _)|refine Tc ?_|exact Tz)
   refine WX.metI (i+1) (hs:=⟨by show i+1≤W.length;omega,by show W.length - (i+1)<W.length - i;omega⟩)
 ·have:i=W.length:=by omega
  subst this;rw[← hT,jg]
  repeat (first|refine Td ?_|(refine Tm ?_;intro _)|refine Tc ?_|exact Tz)
  refine WC.dF rfl Om ?_
  repeat (first|refine Td ?_|(refine Tm ?_;intro _)|refine Tc ?_|exact Tz)
  exact WX.retN
theorem nG (B:LN) (x wd c:Nat) (p:Option Addr) (h8:wd≤8) (hl:B.length≤549755813888) :
  Fn Tryz.prog 42 [.slice p B.length c,.int .u64 (x:Int),.int .i64 (wd:Int)] (fun w=>Rd (.slice p B.length c) B.length (byC B) w)
   (az 5 (B++be wd x).length (byC (B++be wd x))):=by
 have hb:beL wd [x]=be wd x:=by simp[beL]
 have hmax:(if (wd:Int) > 0 then (wd:Int) else 0)=(wd:Int):=by split<;>omega
 have hmin:(if (wd:Int)<8 then (wd:Int) else 8)=(wd:Int):=by split<;>omega
 have hP:=fun g=>agN B [x] wd c 1 p g 0 h8 (by simp;omega) Sm;rw[hb] at hP;refine Fn.enter Tryz.func42 rfl rfl rfl ?_;intro w hw
 repeat (first|refine Tj ?_|intro _|refine WO.does (aa2 rfl rfl hmax) ?_|refine WO.does (vD rfl rfl hmin) ?_|(refine WO.makes (zh (cs:=[.int .u64 (x:Int)]) rfl Dtt rfl) ?_;intro g2)|refine Tc ?_|exact Tz)
 refine WO.acallN (hc:=hP g2) (hR:=fun w1 hm=>⟨hw.rds.rd hm,Hs.here.seg hm⟩) (k:=fun g3=>?_)
 repeat (first|refine Tk ?_|intro _|exact Tz)
 exact WX.retN
def rvC (a b c d:Nat):Nat→List Value
 | 0=>[.int .u64 (a:Int),.int .u64 (b:Int),.int .u64 (c:Int),.int .u64 (d:Int)]
 | 1=>[.int .u64 (d:Int),.int .u64 (b:Int),.int .u64 (c:Int),.int .u64 (a:Int)]
 | _=>[.int .u64 (d:Int),.int .u64 (c:Int),.int .u64 (b:Int),.int .u64 (a:Int)]
def rvK (g:Nat):Nat→List (Nat × Value)
 | 0=>[(0,AQ g 4 4),(2,.int .i64 0),(3,.int .i64 3)]
 | 1=>[(0,AQ g 4 4),(2,.int .i64 1),(3,.int .i64 2)]
 | _=>[(0,AQ g 4 4),(2,.int .i64 2),(3,.int .i64 1)]
theorem afC (g t a b c d:Nat) (ht:t≠0):FnM Tryz.prog 103 [AQ g 4 4] g t (rvC a b c d 0) (rvC a b c d 2) Tr (.tuple #[]):=by
 refine FnM.enter Tryz.func103 rfl rfl rfl ?_;intro w hw;simp only[rvC]
 repeat (first|refine Tk ?_|intro _|exact Tz)
 refine WC.loopI (σ:=Nat) (fun k=>k≤2) (rvK g) (fun k=>[⟨g,t,rvC a b c d k⟩]) (fun k=>2 - k) 0 (fun k hk=>?_) Dtt
 match k,hk with
 | 0,_ =>
  simp only[rvK,rvC]
  repeat (first|refine Tk ?_|intro _|exact Tz)
  refine WC.adrawF [2,3] 13 (k:=?_)
  repeat (first|refine Da ?_|refine Df ?_)
  refine DQ.anil (k:=?_);intro sx _
  repeat (first|refine Tj ?_|intro _|refine WO.stores (zo (ht:=ht)) ?_|refine Tc ?_|exact Tz)
  exact WX.metI 1 (hs:=⟨by decide,by decide⟩)
 | 1,_ =>
  simp only[rvK,rvC]
  repeat (first|refine Tk ?_|intro _|exact Tz)
  refine WC.adrawF [2,3] 13 (k:=?_)
  repeat (first|refine Da ?_|refine Df ?_)
  refine DQ.anil (k:=?_);intro sx _
  repeat (first|refine Tj ?_|intro _|refine WO.stores (zo (ht:=ht)) ?_|refine Tc ?_|exact Tz)
  exact WX.metI 2 (hs:=⟨by decide,by decide⟩)
 | 2,_ =>
  simp only[rvK,rvC]
  repeat (first|refine Tk ?_|intro _|exact Tz)
  exact WX.retM_ofN (ahe rfl) Hs.here
theorem yQ (B:LN) (x c:Nat) (p:Option Addr) (hl:B.length≤549755813888) :
  Fn Tryz.prog 44 [.slice p B.length c,zk x] (fun w=>Rd (.slice p B.length c) B.length (byC B) w) (az 5 (B++be 32 x).length (byC (B++be 32 x))):=by
 have hP:=fun g=>agN B [wd 3 x,wd 2 x,wd 1 x,wd 0 x] 8 c 4 p g 0 Om (by simp;omega) Sm;rw[adv] at hP;have hR:=fun g=>afC g 24 (wd 0 x) (wd 1 x) (wd 2 x) (wd 3 x) Dtt;simp only[rvC] at hR;refine Fn.enter Tryz.func44 rfl rfl rfl ?_;intro w hw
 repeat (first|refine Td ?_|(refine Tm ?_;intro _)|refine Tc ?_|exact Tz)
 rename_i g3;refine WO.does (yu rfl) ?_;refine WO.callM (hc:=hR g3) rfl Rp.here (fun _ _=>trivial) Dtt ?_ rfl rfl
 repeat (first|refine Td ?_|(refine Tm ?_;intro _)|refine WO.does (yu rfl) ?_|refine Tc ?_|exact Tz)
 refine WO.acallN (hc:=hP g3) (hR:=fun w1 hm=>⟨hw.rds.rd hm,Hs.here.seg hm⟩) (k:=fun g4=>?_)
 repeat (first|refine Td ?_|(refine Tm ?_;intro _)|refine Tc ?_|exact Tz)
 exact WX.retN
theorem ahA (B:LN) (n c b o:Nat) (hB:∀ b∈B,b<256) (hn:8≤n) (hBn:n≤B.length) (hc:n≤c) (hc2:c<9223372036854775808) :
  Fn Tryz.prog 257 [.slice (some ⟨b,o,none⟩) n c,.int .i64 8] (fun w=>Seg w b o (byC B)) (Is (.tuple #[.int .u64 ((beV (B.take 8):Nat):Int),.int .i64 0])):=by
 refine Fn.enter Tryz.func257 rfl rfl rfl ?_;intro w hw
 repeat (first|refine Td ?_|(refine Tm ?_;intro _)|refine Tc ?_|exact Tz)
 repeat (first|refine Td ?_|(refine Tm ?_;intro _)|refine WO.does (vA (h:=8) rfl rfl Om) ?_|refine Tc ?_|exact Tz)
 refine WC.loopI (σ:=Nat) (fun i=>i≤8) (fun i=>[(4,.int .u64 ((beV (B.take i):Nat):Int)),(22,.slice (some ⟨b,o,none⟩) 8 c),(23,.int .i64 8),(24,.int .i64 (i:Int))]) (fun _=>[]) (fun i=>8 - i) 0 (fun i hi=>?_) (Nat.zero_le _)
 try dsimp only at hi ⊢
 by_cases hlt:i<8
 ·have hi2:i<B.length:=by omega
  have hget:(byC B)[o+i - o]?=some (.int .u8 ((B[i]:Nat):Int)):=by rw[Nat.add_sub_cancel_left];exact lM hi2
  have hb:B[i] < 256:=hB _ (List.getElem_mem hi2);have hv:beV (B.take i)<72057594037927936:=by
   have h1:=bI (tG hB i);have h2:(B.take i).length≤7:=by rw[List.length_take];omega
   exact Nat.lt_of_lt_of_le h1 (Nat.pow_le_pow_right (n:=256) Om h2)
  have hnext:beV (B.take i)*256+B[i]=beV (B.take (i+1)):=by rw[List.take_succ_eq_append_getElem hi2,aad]
  repeat (first|refine Td ?_|(refine Tm ?_;intro _)|refine Tc ?_|exact Tz)
  refine WC.dT rfl Om ?_
  repeat (first|refine Td ?_|(refine Tm ?_;intro _)|refine WO.does (sW rfl rfl Dtt (aaj hv)) ?_|refine WO.does (uK rfl rfl (adI hv hb)) ?_|refine Tc ?_|exact Tz)
  rw[hnext];refine WX.metI (i+1) (hs:=⟨by show i+1≤8;omega,by show 8 - (i+1)<8 - i;omega⟩)
 ·have hi8:i=8:=by omega
  have hv:beV (B.take i)=beV (B.take 8):=by rw[hi8]
  rw[hv];generalize beV (B.take 8)=V
  repeat (first|refine Td ?_|(refine Tm ?_;intro _)|refine Tc ?_|exact Tz)
  refine WC.dF rfl Om ?_
  repeat (first|refine Td ?_|(refine Tm ?_;intro _)|refine Tc ?_|exact Tz)
end Sx
end
section
open Go Go.RowKit
namespace Sx
attribute [local irreducible] DQ WC WO WX
def glC (d c b a:Nat):Nat→List Value
 | 0=>[.int .u64 0,.int .u64 0,.int .u64 0,.int .u64 0]
 | 1=>[.int .u64 0,.int .u64 0,.int .u64 0,.int .u64 (d:Int)]
 | 2=>[.int .u64 0,.int .u64 0,.int .u64 (c:Int),.int .u64 (d:Int)]
 | 3=>[.int .u64 0,.int .u64 (b:Int),.int .u64 (c:Int),.int .u64 (d:Int)]
 | _=>[.int .u64 (a:Int),.int .u64 (b:Int),.int .u64 (c:Int),.int .u64 (d:Int)]
def glK (g:Nat) (s:Value):Nat→List (Nat × Value)
 | 0=>[(0,s),(2,pt g),(9,.int .i64 0)]
 | 1=>[(0,s),(2,pt g),(9,.int .i64 1)]
 | 2=>[(0,s),(2,pt g),(9,.int .i64 2)]
 | 3=>[(0,s),(2,pt g),(9,.int .i64 3)]
 | _=>[(0,s),(2,pt g),(9,.int .i64 4)]
theorem av (B:LN) (b o:Nat) (hB:∀ b∈B,b<256) (hl:B.length=32) :
  Fn Tryz.prog 217 [.slice (some ⟨b,o,none⟩) 32 32] (fun w=>Seg w b o (byC B)) (Is (.tuple #[zk (beV B),.int .i64 0])):=by
 have hG:=fun l (h:l≤24)=>ahA (B.drop l) (32 - l) (32 - l) b (o+l) (vY hB l) Om (by rw[List.length_drop];omega) Om Om;have hS:=fun l (w:World) (h:Seg w b o (byC B))=>h.sub (k:=l) (m:=32) (vs:=byC (B.drop l)) (by rw[cut,oZ,List.take_of_length_le];rw[zd,List.length_drop];omega);have hend:Value.agg #[.int .u64 ((beV ((B.drop 24).take 8):Nat):Int),.int .u64 ((beV ((B.drop 16).take 8):Nat):Int),.int .u64 ((beV ((B.drop 8).take 8):Nat):Int),.int .u64 ((beV ((B.drop 0).take 8):Nat):Int)]=zk (beV B):=by
  rw[oU (nc (vY hB _) 0) (nc (vY hB _) 0) (nc (vY hB _) 0) (nc (vY hB _) 0),eH hl]
 have h0:=hG 0 Dtt;have h1:=hG 8 Dtt;have h2:=hG 16 Dtt;have h3:=hG 24 Dtt;rw[← hend];clear hend hG;generalize beV ((B.drop 0).take 8)=d0 at *;generalize beV ((B.drop 8).take 8)=d1 at *;generalize beV ((B.drop 16).take 8)=d2 at *;generalize beV ((B.drop 24).take 8)=d3 at *;simp only[Nat.reduceSub] at h0 h1 h2 h3;refine Fn.enter Tryz.func217 rfl rfl rfl ?_;intro w hw;have hw0:=hS 0 w hw;have hw1:=hS 8 w hw;have hw2:=hS 16 w hw;have hw3:=hS 24 w hw;clear hS
 repeat (first|refine Tk ?_|intro _|exact Tz)
 rename_i g;refine WC.loopI (σ:=Nat) (fun k=>k≤4) (glK g (.slice (some ⟨b,o,none⟩) 32 32)) (fun k=>[⟨g,24,glC d0 d1 d2 d3 k⟩]) (fun k=>4 - k) 0 (fun k hk=>?_) Dtt
 match k,hk with
 | 0,_ =>
  simp only[glK,glC]
  repeat (first|refine Tj ?_|intro _|refine WO.does (vp (l:=0) rfl rfl Dtt Dtt rfl) ?_|refine WO.acallR (hc:=h0) (hR:=fun w' hm=>hw0.mod hm.mod Sm) (k:=?_)|refine Tc ?_|exact Tz)
  exact WX.metI 1 (hs:=⟨by decide,by decide⟩)
 | 1,_ =>
  simp only[glK,glC]
  repeat (first|refine Tj ?_|intro _|refine WO.does (vp (l:=8) rfl rfl Dtt Dtt rfl) ?_|refine WO.acallR (hc:=h1) (hR:=fun w' hm=>hw1.mod hm.mod Sm) (k:=?_)|refine Tc ?_|exact Tz)
  exact WX.metI 2 (hs:=⟨by decide,by decide⟩)
 | 2,_ =>
  simp only[glK,glC]
  repeat (first|refine Tj ?_|intro _|refine WO.does (vp (l:=16) rfl rfl Dtt Dtt rfl) ?_|refine WO.acallR (hc:=h2) (hR:=fun w' hm=>hw2.mod hm.mod Sm) (k:=?_)|refine Tc ?_|exact Tz)
  exact WX.metI 3 (hs:=⟨by decide,by decide⟩)
 | 3,_ =>
  simp only[glK,glC]
  repeat (first|refine Tj ?_|intro _|refine WO.does (vp (l:=24) rfl rfl Dtt Dtt rfl) ?_|refine WO.acallR (hc:=h3) (hR:=fun w' hm=>hw3.mod hm.mod Sm) (k:=?_)|refine Tc ?_|exact Tz)
  exact WX.metI 4 (hs:=⟨by decide,by decide⟩)
 | 4,_ =>
  simp only[glK,glC]
  repeat (first|refine Tk ?_|intro _|exact Tz)
end Sx
end
section
open Go Go.RowKit
namespace Sx
attribute [local irreducible] DQ WC WO WX wd
theorem ads (n:Nat) (h0:0<n) (hn:n≤1099511627776):Fn Tryz.prog 219 [.slice none 0 0,.int .i64 (n:Int)] Tr
  (Ex (fun s=>AQ (s 0) 0 (s 1)) (fun s=>[⟨s 0,5,room [] (s 1)⟩]) (fun s=>n≤s 1∧s 1<9223372036854775808)):=by
 refine Fn.enter Tryz.func219 rfl rfl rfl ?_;intro w hw
 repeat (first|refine Tj ?_|intro _|refine WO.does (jL rfl) ?_|refine Tc ?_|exact Tz)
 refine WC.dT rfl Om ?_;have hn0:((n:Int) - 0)=(n:Int):=by omega
 repeat (first|refine Tj ?_|intro _|refine WO.does (jL rfl) ?_|refine WO.does (vA (h:=0) rfl rfl Dtt) ?_|refine Tc ?_|exact Tz)
 refine WO.eqv (v:=.int .i64 (n:Int)) Sm ?_;refine WO.news (bv (n:=n) rfl rfl h0 Om Dtt Om) (fun s hs=>?_);obtain⟨h1,h2⟩:=hs;generalize s 0=g;generalize s 1=c at *
 repeat (first|refine Tj ?_|intro _|refine WO.does (vA (h:=0) rfl rfl Om) ?_|refine Tc ?_|exact Tz)
 exact WX.ret1 rfl (zK rfl) [⟨g,5,room [] c⟩] (Lle.cons Pk.here (d9 n c h1) Lle.nil) ⟨fun i=>if i=0 then g else c,rfl,rfl,h1,h2⟩
def ccK (v:Value) (n1 n2:Nat):Nat→List (Nat × Value)
 | 0=>[(0,v),(3,.int .i64 0),(9,v),(10,.int .i64 2),(11,.int .i64 0)]
 | 1=>[(0,v),(3,.int .i64 (n1:Int)),(9,v),(10,.int .i64 2),(11,.int .i64 1)]
 | _=>[(0,v),(3,.int .i64 ((n1+n2:Nat):Int)),(9,v),(10,.int .i64 2),(11,.int .i64 2)]
def cdK (v:Value) (g c n1 n2:Nat):Nat→List (Nat × Value)
 | 0=>[(6,AQ g 0 c),(25,v),(26,.int .i64 2),(27,.int .i64 0)]
 | 1=>[(6,AQ g n1 c),(25,v),(26,.int .i64 2),(27,.int .i64 1)]
 | _=>[(6,AQ g (n1+n2) c),(25,v),(26,.int .i64 2),(27,.int .i64 2)]
def cdL (g c:Nat) (X1 X2:LN):Nat→List Ent
 | 0=>[⟨g,5,room [] c⟩]
 | 1=>[⟨g,5,room X1 (c - X1.length)⟩]
 | _=>[⟨g,5,room (X1++X2) (c - X1.length - X2.length)⟩]
theorem d6 (X1 X2:LN) (p1 p2:Option Addr) (c1 c2 S c:Nat) (h0:0<X1.length+X2.length) (hm:X1.length+X2.length≤1099511627776) :
  Fn Tryz.prog 177 [AQ S 2 c] (fun w=>Seg w S 0 [.slice p1 X1.length c1,.slice p2 X2.length c2]∧Rd (.slice p1 X1.length c1) X1.length (byC X1) w∧Rd (.slice p2 X2.length c2) X2.length (byC X2) w)
   (agS 5 (X1++X2).length (byC (X1++X2))):=by
 have hlen:(X1++X2).length=X1.length+X2.length:=List.length_append;have hG:=ads (X1.length+X2.length) h0 hm;have hbm:byC (X1++X2)=byC X1++byC X2:=z8 X1 X2;rw[hlen];refine Fn.enter Tryz.func177 rfl rfl rfl ?_;intro w hw;obtain⟨hS,hX1,hX2⟩:=hw
 repeat (first|refine Tk ?_|intro _|exact Tz)
 refine WC.loopI (σ:=Nat) (fun k=>k≤2) (ccK (AQ S 2 c) X1.length X2.length) (fun _=>[]) (fun k=>2 - k) 0 (fun k hk=>?_) Dtt
 ·match k,hk with
  | 0,_ =>
   simp only[ccK]
   repeat (first|refine Tj ?_|intro _|refine WO.does (zi (r:=(X1.length:Int)) rfl rfl (zl Om Om Om)) ?_|refine Tc ?_|exact Tz)
   exact WX.metI 1 (hs:=⟨by decide,by decide⟩)
  | 1,_ =>
   simp only[ccK]
   repeat (first|refine Tj ?_|intro _|refine WO.does (zi (r:=((X1.length+X2.length:Nat):Int)) rfl rfl (zl Om Om Om)) ?_|refine Tc ?_|exact Tz)
   exact WX.metI 2 (hs:=⟨by decide,by decide⟩)
  | 2,_ =>
   simp only[ccK]
   repeat (first|refine Tk ?_|intro _|exact Tz)
   refine WO.acallX (f:=219) (hc:=hG) (hR:=fun _ _=>trivial) (k:=fun s hs=>?_);obtain⟨h1,h2⟩:=hs;generalize s 0=g;generalize s 1=c' at *
   repeat (first|refine Tk ?_|intro _|exact Tz)
   refine WC.loopI (σ:=Nat) (fun k=>k≤2) (cdK (AQ S 2 c) g c' X1.length X2.length) (cdL g c' X1 X2) (fun k=>2 - k) 0 (fun k hk=>?_) Dtt
   match k,hk with
   | 0,_ =>
    simp only[cdK,cdL]
    repeat (first|refine Tk ?_|intro _|exact Tz)
    refine WO.both (pI (n:=X1.length) (xs:=byC X1) (l:=X1.length) rfl rfl hX1.rds (zd X1) Om (zM X1) Rp.here (nF (A:=[]) (X:=X1) Om) (by rw[qj];simp;omega) Dtt Om) ?_
    repeat (first|refine Tk ?_|intro _|exact Tz)
    exact WX.metI 1 (hs:=⟨by decide,by decide⟩)
   | 1,_ =>
    simp only[cdK,cdL]
    repeat (first|refine Tk ?_|intro _|exact Tz)
    refine WO.both (pI (n:=X2.length) (xs:=byC X2) (l:=X1.length+X2.length) rfl rfl hX2.rds (zd X2) Om (zM X2) Rp.here (nF (A:=X1) (X:=X2) Om) (by rw[qj];omega) Dtt Om) ?_
    repeat (first|refine Tk ?_|intro _|exact Tz)
    exact WX.metI 2 (hs:=⟨by decide,by decide⟩)
   | 2,_ =>
    simp only[cdK,cdL]
    repeat (first|refine Tk ?_|intro _|exact Tz)
    exact WX.retL (cs:=byC (X1++X2)) h1 h2 Pk.here
theorem iH (B X:LN) (p q:Option Addr) (c d:Nat) (hB:B.length≤274877906944) (hX:X.length≤274877906944) :
  Fn Tryz.prog 106 [.slice p B.length c,.slice q X.length d] (fun w=>Rd (.slice p B.length c) B.length (byC B) w∧Rd (.slice q X.length d) X.length (byC X) w)
   (agS 5 (B++be 4 X.length++X).length (byC (B++be 4 X.length++X))):=by
 have h4:=nG B X.length 4 c p Om Om;have hl:(B++be 4 X.length).length=B.length+4:=by rw[List.length_append,zj]
 have hC:=fun g S=>d6 (B++be 4 X.length) X (some ⟨g,0,none⟩) q (B++be 4 X.length).length d S 2 Om Om;have hu:IntKind.u64.wrap ((X.length:Nat):Int)=((X.length:Nat):Int):=u64_in Om Om;refine Fn.enter Tryz.func106 rfl rfl rfl ?_;intro w hw;obtain⟨hw1,hw2⟩:=hw
 repeat (first|refine Tj ?_|intro _|refine WO.does (zr rfl hu) ?_|refine Tc ?_|exact Tz)
 refine WO.acallN (hc:=h4) (hR:=fun w1 hm=>hw1.rds.rd hm) (k:=fun g3=>?_)
 repeat (first|refine Tj ?_|intro _|(refine WO.makes (zh (cs:=[AQ g3 (B++be 4 X.length).length (B++be 4 X.length).length,.slice q X.length d]) rfl Dtt rfl) ?_;intro g4)|refine Tc ?_|exact Tz)
 refine WO.acallL (hc:=hC g3 g4) (hR:=fun w1 hm=>⟨Hs.here.seg hm,Rd.of ((Hs.there Hs.here).seg hm),hw2.rds.rd hm⟩) (k:=fun g c r h1 h2=>?_)
 repeat (first|refine Tk ?_|intro _|exact Tz)
 exact WX.retL h1 h2 Pk.here
end Sx
end
section
open Go Go.RowKit Go.BigFrame
namespace Sx
attribute [local irreducible] DQ WC WO WX wd
end Sx
end
section
open Go Go.RowKit
namespace Sx
attribute [local irreducible] DQ WC WO WX
theorem ahw {l:LN} (h:l.length=16):∃ a b c d e f g i j k m n o p q r,l=[a,b,c,d,e,f,g,i,j,k,m,n,o,p,q,r]:=by
 match l,h with
 | [a,b,c,d,e,f,g,i,j,k,m,n,o,p,q,r],_=>exact⟨a,b,c,d,e,f,g,i,j,k,m,n,o,p,q,r,rfl⟩
end Sx
end
end Go.Proofs.YtiaibpcaloigkaaGreatDoor
