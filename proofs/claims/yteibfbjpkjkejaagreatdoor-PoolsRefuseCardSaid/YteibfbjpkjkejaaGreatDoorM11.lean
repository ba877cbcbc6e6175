/- Part 11 of the proof. -/
import Derived.Test.YteibfbjpkjkejaaGreatDoorM02
import Derived.Test.YteibfbjpkjkejaaGreatDoorM10
import Derived.OwnWalk
import Derived.Laws.AppendOwnNone
import Derived.RangeFuncNested
import Derived.RangeFuncBound
import Derived.RangeFuncCalls
import Derived.RangeFuncBox
import Derived.RangeFuncLeaves
import Derived.RangeFuncFrom
import Derived.Shelf.Abstract
import Derived.Shelf.RegionOpen
import Derived.OwnWalkIn
import Derived.TacticsInMore
import Derived.LoopNIn
import Derived.LoopIn
import Derived.Deep.DeepCutAuto
import Derived.Deep.CutBlock
set_option linter.unusedSimpArgs false
set_option linter.unusedVariables false
set_option maxHeartbeats 8000000
namespace Go.Proofs.YteibfbjpkjkejaaGreatDoor
section
open Go.RowKit
def Rd (w:World) (v:Value) (xs:List Value):Prop :=
 (∀ u∈xs,u.oneCell'=true)∧((v=.slice none 0 0∧xs=[])∨∃ (a:Addr) (c:Nat),v=.slice (some a) xs.length c∧a.block<w.heap.size∧∀ j u,xs[j]?=some u→w.cell? (a.add j)=some u)
theorem add_block (a:Addr) (j:Nat):(a.add j).block=a.block:=by unfold Addr.add;split<;>rfl
theorem Rd.below {w w' : World} {v:Value} {xs:List Value} {B:Nat} (h:Rd w v xs) (hB:w.heap.size=B) (hb:Below B w w'):Rd w' v xs:=by
 subst hB;obtain⟨h1,h2|⟨a,c,h2,h3,h4⟩⟩:=h
 ·exact⟨h1,.inl h2⟩
 ·exact⟨h1,.inr ⟨a,c,h2,Nat.lt_of_lt_of_le h3 hb.size,fun j u hj=>(hb.cell (p:=a.add j) (by rw[add_block];exact h3)).trans (h4 j u hj)⟩⟩
def mh (n1 n2 k:Nat):Nat:=if k=0 then 0 else if k=1 then n1 else n1+n2
def acp (xs1 xs2:List Value) (k:Nat):List Value:=if k=0 then [] else if k=1 then xs1 else xs1++xs2
theorem qJ {B:Nat} {w0 w w' : World} {e:TypeId} {size n:Nat} {v:Value} {xs:List Value} (hB:B≤w.heap.size) (hb:Below B w0 w) (h:w.ownsRow B e size v n xs) (hg:w.grownBy w' v.ownBlock):Below B w0 w':=by
 refine hb.grown hg hB (fun k e=>?_)
 rcases h.2 with ⟨rfl,_⟩|⟨g,cap,cur,rfl,hB,_⟩
 ·cases e
 ·cases e;exact hB
set_option maxRecDepth 100000 in
theorem tS (v1 v2:Value) (xs1 xs2:List Value) (S c:Nat) (w:World) (h1:Rd w v1 xs1) (h2:Rd w v2 xs2) (hS:Blk w S 185 [v1,v2]) (hn:0<xs1.length+xs2.length) (hm:xs1.length+xs2.length≤1099511627776) :
  Calls Tryz.prog 150 #[.slice (some ⟨S,0,none⟩) 2 c] w fun e w' =>
   ∃ v,e=.returned v∧w'.ownsRow w.heap.size 22 1 v (xs1.length+xs2.length) (xs1++xs2)∧Below w.heap.size w w':=by
 have hb1:∃ b n c,v1=.slice b n c∧n=xs1.length:=by
  obtain⟨_,⟨rfl,rfl⟩|⟨a,c,rfl,_⟩⟩:=h1
  ·exact⟨_,_,_,rfl,rfl⟩
  ·exact⟨_,_,_,rfl,rfl⟩
 have hb2:∃ b n c,v2=.slice b n c∧n=xs2.length:=by
  obtain⟨_,⟨rfl,rfl⟩|⟨a,c,rfl,_⟩⟩:=h2
  ·exact⟨_,_,_,rfl,rfl⟩
  ·exact⟨_,_,_,rfl,rfl⟩
 obtain⟨b1,n1,c1,rfl,e1⟩:=hb1;obtain⟨b2,n2,c2,rfl,e2⟩:=hb2;rw[← e1,← e2] at hn hm ⊢;have lS:=hS.lt;have cS0:=hS.cell_at (i:=0) rfl;have cS1:=hS.cell_at (i:=1) rfl;have H1:=Lib.hid h1;have H2:=Lib.hid h2;have E1:=Lib.hid e1;have E2:=Lib.hid e2;clear h1 h2 e1 e2
 go_enter Tryz.func150,Tryz.ntmps150
 go_wp2
 go_loopw [3,11] (fun t3 t11 wr=>∃ k:Nat,k≤2∧t11=.int .i64 k∧t3=.int .i64 (mh n1 n2 k:Nat)∧wr=w) (fun _ i _=>2 - (intOf i).toNat)
 case atStart=>exact⟨0,by omega,rfl,rfl,rfl⟩
 case round =>
  obtain⟨k,hk,rfl,rfl,rfl⟩:=hrel;have hk3:k=0∨k=1∨k=2:=by omega
  rcases hk3 with rfl|rfl|rfl
  ·have ht0:mh n1 n2 0=0:=rfl;rw[ht0];go_wp2
   go_roundw
   case rel=>exact⟨1,by omega,rfl,by simp[mh],trivial⟩
   case measure=>simp[intOf]
  ·have ht0:mh n1 n2 1=n1:=rfl;rw[ht0];go_wp2
   go_roundw
   case rel=>exact⟨2,by omega,rfl,by simp[mh],trivial⟩
   case measure=>simp[intOf]
  ·have ht0:mh n1 n2 2=n1+n2:=rfl;rw[ht0]
   go_wp2_with (go_at_call 169;refine (rk (n1+n2) hn hm _).mono ?_;rintro e W ⟨v,rfl,hown,hbw⟩)
   obtain⟨w,rfl⟩ : ∃ w:World,w=wr:=⟨_,rfl⟩;clear cS0 cS1 ht0
   go_loopw [6,27] (fun t6 t27 wr=>∃ (x6:Value) (k:Nat),x6=t6∧k≤2∧t27=.int .i64 k∧wr.ownsRow w.heap.size 22 1 x6 (mh n1 n2 k) (acp xs1 xs2 k)∧Below w.heap.size w wr) (fun _ i _=>2 - (intOf i).toNat)
   case atStart=>exact⟨_,0,rfl,by omega,rfl,hown,hbw⟩
   case round =>
    clear hown hbw;obtain⟨x6,k,rfl,hk,rfl,hown,hbw⟩:=hrel;have hinfo:(Tryz.prog.info? 22).map (fun i=>(i.zero,i.size,i.bytes))=some (some (.int .u64 0),1,8):=by kernel_rfl
    obtain⟨i0,hi,hz0,hz1,hz2⟩:=info_parts hinfo;have hk3:k=0∨k=1∨k=2:=by omega
    rcases hk3 with rfl|rfl|rfl
    ·have c0:=(hS.below hbw lS).cell_at (i:=0) rfl;have hr:=H1.out.below rfl hbw;have e1:=E1.out;obtain⟨ho,⟨e,rfl⟩|⟨a,c',e,hlt,hc⟩⟩:=hr
     ·obtain⟨rfl,q1,q2⟩ : b1=none∧n1=0∧c1=0:=by cases e;exact⟨rfl,rfl,rfl⟩
      have hx0:Value.slice none n1 c1=.slice none 0 0:=by rw[q1,q2]
      have Q:=Lib.hid q1;clear e1 ho e q1 q2;have HX:=Lib.hid hx0;clear hx0
      go_wp2_with (at_builtin;refine wpList_append_own_none rfl _ _ 185 rfl w.heap.size 22 i0 1 Tryz.underlying185 hi x6 _ _ rfl hown HX.out ?_)
      go_roundw
      case rel=>exact⟨_,1,rfl,by omega,rfl,by simpa [mh,acp,Q.out] using hown,hbw⟩
      case measure=>simp[intOf]
     ·cases e;clear e1
      go_wp2_with (at_builtin;refine wpList_append_own _ rfl _ _ 185 rfl w.heap.size 22 i0 (.int .u64 0) 1 8 Tryz.underlying185 hi hz0 hz1 hz2 rfl (by decide) x6 _ _ rfl hown a xs1.length _ xs1 rfl (by simp) hc ho (by simp[mh,maxLen];omega) (by simp[mh];omega) hbw.size ?_;intro v' w1 hown' hgrow _)
      go_roundw
      case rel=>exact⟨_,1,rfl,by omega,rfl,by simpa [mh,acp] using hown',qJ hbw.size hbw hown hgrow⟩
      case measure=>simp[intOf]
    ·have c0:=(hS.below hbw lS).cell_at (i:=1) rfl;have hr:=H2.out.below rfl hbw;have e1:=E2.out;obtain⟨ho,⟨e,rfl⟩|⟨a,c',e,hlt,hc⟩⟩:=hr
     ·obtain⟨rfl,q1,q2⟩ : b2=none∧n2=0∧c2=0:=by cases e;exact⟨rfl,rfl,rfl⟩
      have hx0:Value.slice none n2 c2=.slice none 0 0:=by rw[q1,q2]
      have Q:=Lib.hid q1;clear e1 ho e q1 q2;have HX:=Lib.hid hx0;clear hx0
      go_wp2_with (at_builtin;refine wpList_append_own_none rfl _ _ 185 rfl w.heap.size 22 i0 1 Tryz.underlying185 hi x6 _ _ rfl hown HX.out ?_)
      go_roundw
      case rel=>exact⟨_,2,rfl,by omega,rfl,by simpa [mh,acp,Q.out] using hown,hbw⟩
      case measure=>simp[intOf]
     ·cases e;clear e1
      go_wp2_with (at_builtin;refine wpList_append_own _ rfl _ _ 185 rfl w.heap.size 22 i0 (.int .u64 0) 1 8 Tryz.underlying185 hi hz0 hz1 hz2 rfl (by decide) x6 _ _ rfl hown a xs2.length _ xs2 rfl (by simp) hc ho (by simp[mh,maxLen];omega) (by simp[mh];omega) hbw.size ?_;intro v' w1 hown' hgrow _)
      go_roundw
      case rel=>exact⟨_,2,rfl,by omega,rfl,by simpa [mh,acp] using hown',qJ hbw.size hbw hown hgrow⟩
      case measure=>simp[intOf]
    ·go_wp2
     go_ret
     refine⟨_,rfl,?_,hbw⟩;simpa [mh,acp] using hown
end
section
open Go.RowKit Go.Shelf
attribute [local go_sem] Oper.semAt_some
def upto {α:Type} (f:Nat→α) (k:Nat):List α:=(List.range k).map f
theorem fZ {α:Type} (f:Nat→α) (k:Nat):upto f (k+1)=upto f k++[f k]:=by simp[upto,List.range_succ]
theorem lH {α:Type} (f:Nat→α) (k:Nat):(upto f k).length=k:=by simp[upto]
abbrev U64:Type:={ n:Nat // n<18446744073709551616 }
instance:Inhabited U64:=⟨⟨0,by omega⟩⟩
def uz (b c:Nat) (A B:World):Prop:=B.heap[b]?=A.heap[b]?∧B.heap[c]?=A.heap[c]?
theorem uz.refl (b c:Nat) (A:World):uz b c A A:=⟨rfl,rfl⟩
theorem uz.trans {b c:Nat} {A B C:World} (h:uz b c A B) (k:uz b c B C):uz b c A C:=⟨k.1.trans h.1,k.2.trans h.2⟩
theorem uz.cell1 {b c:Nat} {A B:World} (h:uz b c A B) (j:Nat):B.cell? ⟨b,j,none⟩=A.cell? ⟨b,j,none⟩:=World.cell?_of_block (a:=⟨b,j,none⟩) h.1
theorem uz.cell2 {b c:Nat} {A B:World} (h:uz b c A B) (j:Nat):B.cell? ⟨c,j,none⟩=A.cell? ⟨c,j,none⟩:=World.cell?_of_block (a:=⟨c,j,none⟩) h.2
theorem uz.put {b c:Nat} {w:World} (hb:b<w.heap.size) (hc:c<w.heap.size) (W:World) (l:Nat) (o o' : Obj) (hl:w.heap.size≤l) (_:W.heap[l]?=some o) (_:o.isCells=false) (_:o.isWalk=false):uz b c W (W.putObj l o') :=
 ⟨World.putObj_heap_other (by omega),World.putObj_heap_other (by omega)⟩
def sK (zs:List U64) (j:Nat):Nat × U64:=(zs.length - 1 - j,zs[zs.length - 1 - j]?.getD default)
set_option maxRecDepth 100000 in
theorem ma (F:Fence) (n:Nat) (hf:F.fn 170) (hro:F.round=none) (hn:1≤n) (l Bs b cap:Nat) (zs:List U64) (hreach:zs.length≤1099511627776) (J Jx:List (Nat × U64)→World→Prop)
  (hY:∀ pre x W,J pre W→pre.length<zs.length→YieldAt F (n - 1) Tryz.prog l #[.int .i64 (x.1:Int),.int .u64 (x.2.1:Int)] W fun e W' =>
   (e=.returned (.bool true)∧J (pre++[x]) W'∧uz b Bs W W')∨(e=.returned (.bool false)∧Jx (pre++[x]) W'))
  (W:World) (hBs:W.cell? ⟨Bs,0,none⟩=some (.slice (some ⟨b,0,none⟩) zs.length cap)) (hc:∀ j,j<zs.length→W.cell? ⟨b,j,none⟩=some (.int .u64 ((zs[j]?.getD default).1:Int))) (h0:J [] W) :
  CallsIn F n Tryz.prog 170 #[.func (.yield l) #[] #[],.pointer (some ⟨Bs,0,none⟩)] W fun e W'=>(∃ v,e=.returned v) ∧
   ((∃ ys,ys=upto (sK zs) zs.length∧J ys W')∨(∃ pre,(∃ k,k≤zs.length∧pre=upto (sK zs) k)∧Jx pre W')):=by
 refine callsIn_of_wp Tryz.func170 rfl hf ?_ hro;simp only[Tryz.ntmps170,List.size_toArray,List.length_cons,List.length_nil,Nat.reduceAdd,Nat.reduceSub,Array.replicate_succ,Array.replicate_zero,List.push_toArray,List.append_toArray,List.nil_append,List.cons_append]
 gi_wp2
 gi_loopw [3] (fun i wr=>∃ k:Nat,k≤zs.length∧i=.int .i64 ((zs.length:Int) - 1 - (k:Int))∧J (upto (sK zs) k) wr∧uz b Bs W wr)
  (fun i _=>(intOf i+1).toNat)
 case atStart=>exact⟨0,Nat.zero_le _,by simp,h0,uz.refl _ _ _⟩
 case round =>
  obtain⟨k,hk,hi,hJs,hnx⟩:=hrel;have hBs':=(hnx.cell2 0).trans hBs
  by_cases hlt:k<zs.length
  ·rw[show (zs.length:Int) - 1 - (k:Int)=((zs.length - 1 - k:Nat):Int) by omega] at hi;subst hi;have hjl:zs.length - 1 - k<zs.length:=by omega
   have hcx:=(hnx.cell1 _).trans (hc _ hjl);obtain⟨fn,tmps,assign,body,hy,hR⟩:=hY _ (sK zs k) wr hJs (by rw[lH];exact hlt);have hse:=fZ (sK zs) k;unfold sK at hy;dsimp only at hy;generalize hj:zs.length - 1 - k=j at *;generalize hz:zs[j]?.getD default=z at *;have hbk:sK zs k=(j,z):=by simp only[sK,hj,hz]
   have hjz:(j:Int)<(zs.length:Int):=by omega
   have hnext:(j:Int) - 1=(zs.length:Int) - 1 - ((k+1:Nat):Int):=by omega
   have HN:=Lib.hid hnext;clear hnext
   gi_wp2
   refine hR.mono ?_;rintro e W3 (⟨rfl,hJ3,hk3⟩|⟨rfl,hJx3⟩)
   ·gi_wp2
    go_roundw
    case rel=>exact⟨k+1,by omega,by rw[← HN.out],by rw[hse];exact hJ3,hnx.trans hk3⟩
    case measure=>first|(simp[intOf];done)|(simp[intOf];omega)
   ·gi_wp2
    refine bodyPost_ret (results_none rfl _ _ _) rfl ?_;exact⟨⟨_,rfl⟩,.inr ⟨_,⟨k+1,by omega,hse.symm⟩,hJx3⟩⟩
  ·obtain rfl:k=zs.length:=by omega
   rw[show (zs.length:Int) - 1 - (zs.length:Int) = -1 by omega] at hi;subst hi
   gi_wp2
   go_end0
   exact⟨⟨_,rfl⟩,.inl ⟨_,rfl,hJs⟩⟩
theorem qx (n:Nat) (hn:1≤n) (Bs b cap:Nat) (zs:List U64) (hreach:zs.length≤1099511627776) (w:World) (hBn:Bs<w.heap.size) (hb:b<w.heap.size)
  (hBs:w.cell? ⟨Bs,0,none⟩=some (.slice (some ⟨b,0,none⟩) zs.length cap)) (hc:∀ j,j<zs.length→w.cell? ⟨b,j,none⟩=some (.int .u64 ((zs[j]?.getD default).1:Int))) :
  SeqStopsK Fence.wide n Tryz.prog 170 #[.pointer (some ⟨Bs,0,none⟩)] (fun x:Nat × U64=>#[Value.int .i64 (x.1:Int),Value.int .u64 (x.2.1:Int)]) (uz b Bs) (fun ys=>ys=upto (sK zs) zs.length)
   (fun pre=>∃ k,k≤zs.length∧pre=upto (sK zs) k) zs.length w:=fun l J Jx W hW _ _ hY h0 =>
 ma Fence.wide n trivial rfl hn l Bs b cap zs hreach J Jx hY W ((hW.cell (p:=⟨Bs,0,none⟩) hBn).trans hBs) (fun j hj=>(hW.cell (p:=⟨b,j,none⟩) hb).trans (hc j hj)) h0
theorem rx (a:Option Addr) (len cap:Nat) (w:World) :
  Calls Tryz.prog 151 #[.slice a len cap] w fun e w'=>e=.returned (.func (.func 170) #[] #[.pointer (some ⟨w.heap.size,0,none⟩)])∧w'=w.alloc (.cells #[.slice a len cap] 185):=by
 go_enter Tryz.func151,Tryz.ntmps151
 go_wp2
 go_ret
 exact⟨rfl,rfl⟩
theorem oR {W W' : World} (h:Ext W W'):KeepsOthers W W':=⟨h.size,fun k o hk _=>(h.block k (Array.getElem?_eq_some_iff.1 hk).1).trans hk⟩
theorem Blk.own {A B:World} {row:Option Nat} {g:Nat} {t:TypeId} {cs:List Value} (h:Blk A g t cs) (hg:A.grownBy B row) (hr:∀ r,row=some r→∃ o:Obj,A.heap[r]?=some o∧o.isCells=false):Blk B g t cs:=by
 refine h.grown hg (fun e=>?_);obtain⟨o,h1,h2⟩:=hr g e.symm;unfold Blk at h;rw[h] at h1;cases h1;cases h2
end
section
open Go.RowKit
theorem fY {a k:Nat} (hx:wd k a=0) (hz:∀ j,k<j→j<4→wd j a=0) (j:Nat) (h1:k≤j) (h2:j<4):wd j a=0:=by
 rcases Nat.lt_or_eq_of_le h1 with h|h
 ·exact hz j h h2
 ·subst h;exact hx
theorem uV (a:Nat) (ha:a<zd) (w:World) :
  Calls Tryz.prog 78 #[zi a] w fun e w'=>e=.returned (.int .i64 (zF a:Nat))∧Below w.heap.size w w':=by
 go_enter Tryz.func78,Tryz.ntmps78
 go_wp2;generalize hW:w.alloc _=W;have hg0:Blk W w.heap.size 24 (zb a):=by subst hW;exact Blk.new _ _ _
 have hb:Below w.heap.size w W:=by subst hW;exact (Ext.rfl' w).alloc' _
 clear hW
 go_loop [3] (fun i=>(i=.int .i64 (-1)∧∀ j,j<4→wd j a=0)∨∃ k:Nat,k<4∧i=.int .i64 k∧∀ j,k<j→j<4→wd j a=0) (fun i=>(intOf i+1).toNat)
 case atStart=>exact .inr ⟨3,by omega,rfl,fun j h1 h2=>by omega⟩
 case round =>
  rcases hrel with ⟨rfl,hz⟩|⟨k,hk,rfl,hz⟩
  ·have hres:=eD ha hz;subst hres;clear hz;go_wp2
   go_ret
   exact⟨by simp[zF],hb⟩
  ·have c0:=hg0.cell_at (y8 a hk)
   by_cases hx:wd k a=0
   ·have Hz:=Lib.hid hz;clear hz;go_wp2
    go_round
    case rel =>
     by_cases h0:k=0
     ·subst h0;exact .inl ⟨rfl,fun j hj=>fY hx Hz.out j (by omega) hj⟩
     ·exact .inr ⟨k - 1,by omega,by rw[show ((k - 1:Nat):Int)=(k:Int) - 1 by omega],fun j h1 h2=>fY hx Hz.out j (by omega) h2⟩
    case measure=>first|(simp[intOf];done)|(simp[intOf];omega)
   ·have hres:=iA ha hk hz hx;have Hr:=Lib.hid hres;clear hres hz;have hpos:0<wd k a:=by omega
    have hle:=adB k a;have hlb:=y6 (k:=64) (yf k a);have hbl:=bitLen_eq (yf k a)
    go_wp2_with (go_at_call 115;refine (Tryz.bits_Len64 _ _ (by omega) (by omega)).mono ?_;rintro e w1 ⟨rfl,rfl⟩)
    go_ret
    refine⟨?_,hb⟩;rw[Hr.out];exact congrArg (fun z:Int=>Ending.returned (.int .i64 z)) (by simp)
theorem and_one (n:Nat) (h:n<18446744073709551616):bits .and .u64 (n:Int) 1=((n%2:Nat):Int):=by
 have:=u64_and_nat n 1 h (by omega);rw[nat_mask1] at this;exact this
theorem rq (a:Nat) (i:Int) (ha:a<zd) (hi0:0≤i) (hi1:i≤1000000) (w:World) :
  Calls Tryz.prog 116 #[zi a,.int .i64 i] w fun e w'=>e=.returned (.int .u64 (uh a i.toNat:Nat))∧Below w.heap.size w w':=by
 obtain⟨n,rfl⟩:=Int.eq_ofNat_of_zero_le hi0;rw[Int.toNat_natCast]
 by_cases h:n<256
 ·have hq:n / 64<4:=by omega
  have hb:=kf ha (n / 64) (n%64) hq (Nat.mod_lt _ (by omega));rw[show 64*(n / 64)+n%64=n by omega] at hb;have hw:=yf (n / 64) a;have hw2:wd (n / 64) a / 2 ^ (n%64)<18446744073709551616:=Nat.lt_of_le_of_lt (Nat.div_le_self _ _) hw;have ho:=and_one _ hw2;have Hb:=Lib.hid hb;clear hb;have c0:=(Blk.new w 24 (zb a)).cell_at (y8 a hq);have hd1:decide ((n:Int)<0)=false:=by simp
  have hd2:decide (256≤(n:Int))=false:=by simp;omega
  go_enter Tryz.func116,Tryz.ntmps116
  go_wp2
  go_ret
  refine⟨congrArg (fun z:Int=>Ending.returned (.int .u64 z)) ?_,(Ext.rfl' w).alloc' _⟩;show bits .and .u64 ((wd (n / 64) a:Nat) / 2 ^ (n%64):Int) 1=_;rw[show ((wd (n / 64) a:Nat) / 2 ^ (n%64):Int)=((wd (n / 64) a / 2 ^ (n%64):Nat):Int) by simp,ho,Hb.out]
 ·have hb:=e8 ha (i:=n) (by omega);have hd1:decide ((n:Int)<0)=false:=by simp
  have hd2:decide (256≤(n:Int))=true:=by simp;omega
  go_enter Tryz.func116,Tryz.ntmps116
  go_wp2
  go_ret
  exact⟨by simp[hb],(Ext.rfl' w).alloc' _⟩
theorem my (a b c d:Nat) (ha:a<18446744073709551616) (hb:b<18446744073709551616) (hc:c<18446744073709551616) (hd:d<18446744073709551616) :
  a*b / 18446744073709551616≤18446744073709551614∧a*b%18446744073709551616<18446744073709551616 ∧
  (a*b%18446744073709551616+c) / 18446744073709551616≤1∧((a*b%18446744073709551616+c)%18446744073709551616+d) / 18446744073709551616≤1 ∧
  a*b / 18446744073709551616+(a*b%18446744073709551616+c) / 18446744073709551616+((a*b%18446744073709551616+c)%18446744073709551616+d) / 18446744073709551616≤18446744073709551615 ∧
  (a*b+c+d)%18446744073709551616=((a*b%18446744073709551616+c)%18446744073709551616+d)%18446744073709551616 ∧
  (a*b+c+d) / 18446744073709551616=a*b / 18446744073709551616+(a*b%18446744073709551616+c) / 18446744073709551616+((a*b%18446744073709551616+c)%18446744073709551616+d) / 18446744073709551616:=by
 have hm:a*b≤18446744073709551615*18446744073709551615:=Nat.mul_le_mul (by omega) (by omega);generalize a*b=p at *;omega
theorem mw (a b c d:Nat) (ha:a<18446744073709551616) (hb:b<18446744073709551616) (hc:c<18446744073709551616) (hd:d<18446744073709551616) (w:World) :
  Calls Tryz.prog 148 #[.int .u64 (a:Int),.int .u64 (b:Int),.int .u64 (c:Int),.int .u64 (d:Int)] w fun e w' =>
   e=.returned (.tuple #[.int .u64 (((a*b+c+d)%18446744073709551616:Nat):Int),.int .u64 (((a*b+c+d) / 18446744073709551616:Nat):Int)])∧w=w':=by
 have hA0:∀ (x y:Nat) (w:World),(callFunc 168 #[.int .u64 x,.int .u64 y,.int .u64 0]).run Tryz.prog w =
   .ok (.value (.tuple #[.int .u64 (((x+y)%18446744073709551616:Nat):Int),.int .u64 (((x+y) / 18446744073709551616:Nat):Int)])) w:=fun x y w=>nu x y 0 (by omega) w
 have hM:=Tryz.bits_Mul64 a b ha hb;obtain⟨h1,h2,h3,h4,h5,e1,e2⟩:=my a b c d ha hb hc hd;rw[e1,e2];clear e1 e2;generalize a*b / 18446744073709551616=H at *;generalize a*b%18446744073709551616=L at *;have A1:=hA0 L c;generalize (L+c)%18446744073709551616=S1 at *;generalize (L+c) / 18446744073709551616=C1 at *;have A2:=hA0 S1 d;generalize (S1+d)%18446744073709551616=S2 at *;generalize (S1+d) / 18446744073709551616=C2 at *;clear hA0;have HM:=Lib.hid hM;clear hM
 go_enter Tryz.func148,Tryz.ntmps148
 go_wp2_with (go_at_call 117;refine (HM.out _).mono ?_;rintro e w1 ⟨rfl,rfl⟩)
 go_ret2
 exact⟨by simp,rfl⟩
theorem wrapN (n:Nat):IntKind.u64.wrap (n:Int)=((n%18446744073709551616:Nat):Int):=by rw[IntKind.wrap_u64];omega
theorem kh {n:Nat} (h:n<18446744073709551616):IntKind.u64.wrap (n:Int)=(n:Int):=by rw[wrapN,Nat.mod_eq_of_lt h]
theorem divN (a b:Nat) (ha:a<18446744073709551616) (hb:0<b):IntKind.u64.wrap ((a:Int) / (b:Int))=(a:Int) / (b:Int):=by
 have:((a:Int) / (b:Int))=((a / b:Nat):Int):=by simp
 rw[this,kh (Nat.lt_of_le_of_lt (Nat.div_le_self _ _) ha)]
theorem adp (a b:Nat):IntKind.u64.wrap ((a:Int)*(b:Int))=((a*b%18446744073709551616:Nat):Int):=by rw[← wrapN];simp
theorem aC (a:Nat):IntKind.u64.wrap ((a:Int)*4294967296)=((a*4294967296%18446744073709551616:Nat):Int):=adp a 4294967296
theorem abb (a:Nat) (h:a<4294967296):IntKind.u64.wrap (4294967296*(a:Int))=((4294967296*a:Nat):Int):=by
 have:=adp 4294967296 a;rw[Nat.mod_eq_of_lt (by omega)] at this;exact this
theorem addW (a b:Nat):IntKind.u64.wrap ((a:Int)+(b:Int))=(((a+b)%18446744073709551616:Nat):Int):=by rw[← wrapN];simp
theorem aeH {a b n:Nat} (hn:n<18446744073709551616) (h:(b+n)%18446744073709551616=a%18446744073709551616):IntKind.u64.wrap ((a:Int) - (b:Int))=(n:Int):=by
 rw[IntKind.wrap_u64];omega
theorem dW (z r u d:Nat) (h:z+r=u*4294967296+d):(z%18446744073709551616+r)%18446744073709551616=(u*4294967296%18446744073709551616+d)%18446744073709551616%18446744073709551616:=by omega
theorem ad6 {u d Y:Nat} (hu:u<Y) (hY:Y<18446744073709551616) :
  (((u*4294967296+d) / Y)*Y%18446744073709551616+(u*4294967296+d)%Y)%18446744073709551616=(u*4294967296%18446744073709551616+d)%18446744073709551616%18446744073709551616:=by
 have h:=Nat.div_add_mod (u*4294967296+d) Y;rw[Nat.mul_comm] at h;exact dW _ _ _ _ h
theorem aeK (a b:Nat):(a:Int).tmod (b:Int)=(a:Int)%(b:Int):=Int.tmod_eq_emod_of_nonneg (by omega)
set_option maxRecDepth 100000 in
theorem qf (lo y:Nat) (h1:lo<18446744073709551616) (h2:y<18446744073709551616) (h0:0<y) (w:World) :
  Calls Tryz.prog 118 #[.int .u64 0,.int .u64 (lo:Int),.int .u64 (y:Int)] w fun e w'=>e=.returned (.tuple #[.int .u64 ((lo / y:Nat):Int),.int .u64 ((lo%y:Nat):Int)])∧Below w.heap.size w w':=by
 have hy1:((y:Int) == 0)=false:=by simp;omega
 have hy2:decide ((y:Int)≤0)=false:=by simp;omega
 have hy3:1≤(y:Int):=by omega
 go_enter Tryz.func118,Tryz.ntmps118
 go_wp2;refine Kp.wp_region_kpl 8 (by kernel_rfl) (by kernel_rfl) (fun L Fin hL hFin=>?_);have HL:=Lib.hid hL;clear hL;have HF:=Lib.hid hFin;clear hFin;simp only[List.take_succ_cons,List.take_zero,List.drop_succ_cons,List.drop_zero];apply Exists.intro
 repeat ((first|(apply Kp.kp_free;(first|rfl|(rw[HL.out];rfl));(intro w1;go_simp;rfl))|(apply Kp.kp_now;rfl;(first|rfl|(rw[HL.out];rfl));(intro w1 hb1;obtain⟨hcw,hfw⟩:=uy hb1;clear hb1;go_simp;rfl)));simp only[Act.put,List.setIfInBounds_toArray,List.set_cons_succ,List.set_cons_zero])
 apply Kp.kp_nil;refine HF.out _ _ (fun w1 hb1 _=>?_);clear HL HF;simp only[List.drop_succ_cons,List.drop_zero];go_wp2
 go_ret2
 refine⟨?_,hb1⟩;show Ending.returned (.tuple #[.int .u64 (IntKind.u64.wrap ((lo:Int) / (y:Int))),.int .u64 ((lo:Int).tmod (y:Int))])=_;rw[divN lo y h1 h0,aeK lo y];simp
theorem aeT (D E:Nat) (hD:D<4294967296) (hE:E<4294967296):∃ z1:Nat,IntKind.u64.wrap ((D:Int)*4294967296)=(z1:Int)∧IntKind.u64.wrap ((z1:Int)+(E:Int))=((D*4294967296+E:Nat):Int) :=
 ⟨D*4294967296,by rw[aC,Nat.mod_eq_of_lt (by omega)],by rw[addW,Nat.mod_eq_of_lt (by omega)]⟩
def aeS (u d h l Y q0 p0 r0 D R x1 x2 x3:Nat):Prop :=
 IntKind.u64.wrap (q0:Int)=(q0:Int)∧(u:Int) / (h:Int)=(q0:Int)∧IntKind.u64.wrap ((q0:Int)*(h:Int))=(p0:Int)∧IntKind.u64.wrap ((u:Int) - (p0:Int))=(r0:Int) ∧
 r0<4294967296∧Dig u d h l q0 r0∧D<4294967296∧R<Y∧IntKind.u64.wrap ((u:Int)*4294967296)=(x1:Int)∧IntKind.u64.wrap ((x1:Int)+(d:Int))=(x2:Int) ∧
 IntKind.u64.wrap ((D:Int)*(Y:Int))=(x3:Int)∧IntKind.u64.wrap ((x2:Int) - (x3:Int))=(R:Int)∧D=(u*4294967296+d) / (h*4294967296+l)∧R=(u*4294967296+d)%(h*4294967296+l)
theorem pack (u d h l Y:Nat) (hYe:Y=h*4294967296+l) (hu:u<Y) (hY:Y<18446744073709551616) (hh1:2147483648≤h) (hh2:h<4294967296) (hl:l<4294967296) (hd2:d<4294967296) :
  ∃ q0 p0 r0 D R x1 x2 x3,aeS u d h l Y q0 p0 r0 D R x1 x2 x3:=by
 have hu64:u<18446744073709551616:=by omega
 have hpos:0<h*4294967296+l:=by omega
 have P1:=divN u h hu64 (by omega);have P1' : (u:Int) / (h:Int)=((u / h:Nat):Int):=by simp
 rw[P1'] at P1;have P2:=adp (u / h) h;have hle1:u / h*h≤u:=Nat.div_mul_le_self u h;rw[Nat.mod_eq_of_lt (by omega)] at P2;have P3:IntKind.u64.wrap ((u:Int) - ((u / h*h:Nat):Int))=((u%h:Nat):Int):=aeH (Nat.lt_of_le_of_lt (Nat.mod_le _ _) hu64) (by rw[Nat.mul_comm,Nat.div_add_mod]);have hr1:u%h<4294967296:=Nat.lt_of_lt_of_le (Nat.mod_lt _ (by omega)) (by omega);have hlt1:=Nat.mod_lt (u*4294967296+d) hpos;have P7:=aeH (by omega) (ad6 (u:=u) (d:=d) (Y:=h*4294967296+l) (by omega) (by omega))
 exact⟨_,_,_,(u*4294967296+d) / (h*4294967296+l),(u*4294967296+d)%(h*4294967296+l),_,_,_,P1,P1',P2,P3,hr1,Dig.start hh1 hd2,
  cd (by omega) hd2,by rw[hYe];exact hlt1,aC u,addW _ d,adp _ Y,by rw[hYe];exact P7,rfl,rfl⟩
theorem testW {q l r d:Nat} (hq:q<4294967296) (hl:l<4294967296) (hr:r<4294967296) (hd:d<4294967296) :
  IntKind.u64.wrap ((q:Int)*(l:Int))=((q*l:Nat):Int)∧IntKind.u64.wrap (4294967296*(r:Int))=((4294967296*r:Nat):Int) ∧
  IntKind.u64.wrap (((4294967296*r:Nat):Int)+(d:Int))=((4294967296*r+d:Nat):Int):=by
 have h1:q*l≤4294967295*4294967295:=Nat.mul_le_mul (by omega) (by omega);refine⟨?_,abb r hr,?_⟩
 ·rw[adp,Nat.mod_eq_of_lt (by omega)]
 ·rw[addW,Nat.mod_eq_of_lt (by omega)]
set_option maxRecDepth 100000 in
theorem rC (hi lo y:Nat) (h1:lo<18446744073709551616) (h2:y<18446744073709551616) (h0:0<hi) (h3:hi<y) (w:World) :
  Calls Tryz.prog 118 #[.int .u64 (hi:Int),.int .u64 (lo:Int),.int .u64 (y:Int)] w fun e w' =>
   e=.returned (.tuple #[.int .u64 (((hi*18446744073709551616+lo) / y:Nat):Int),.int .u64 (((hi*18446744073709551616+lo)%y:Nat):Int)])∧Below w.heap.size w w':=by
 have hy1:((y:Int) == 0)=false:=by simp;omega
 have hy2:decide (y≤hi)=false:=by simp;omega
 have hy3:1≤(y:Int):=by omega
 have hh1:((hi:Int) == 0)=false:=by simp;omega
 have hbl:=bitLen_eq h2;have hb64:=y6 (k:=64) h2;obtain⟨_,k1,k2,k3⟩:=ao (by omega) h2;obtain⟨S,hS⟩ : ∃ S,S=64 - zF y:=⟨_,rfl⟩
 have hlz:∀ w,Calls Tryz.prog 147 #[.int .u64 (y:Int)] w fun e w'=>e=.returned (.int .i64 (S:Nat))∧w=w':=fun w =>
  (Tryz.bits_LeadingZeros64 _ w (by omega) (by omega)).mono fun e w' h=>⟨by rw[h.1,hS];congr 2;simp[hbl];omega,h.2.symm⟩
 rw[← hS] at k2 k3;have hS63:S<64:=by omega
 obtain⟨n1,n2⟩:=jE hS63 k3 h3 h1;have hor:=dZ (hi:=hi) hS63 h1;have nd:=bU (U:=hi*18446744073709551616+lo) (y:=y) (Nat.two_pow_pos S);have hA:hi*2 ^ S<18446744073709551616:=Nat.lt_of_le_of_lt (Nat.mul_le_mul_right _ (Nat.le_of_lt h3)) k3;have hL:lo / 2 ^ (64 - S)<18446744073709551616:=Nat.lt_of_le_of_lt (Nat.div_le_self _ _) h1;have E1:IntKind.u64.wrap ((y:Int)*2 ^ S)=((y*2 ^ S:Nat):Int):=by rw[← Nat.mod_eq_of_lt k3,← wrapN];simp
 have E4:IntKind.u64.wrap ((hi:Int)*2 ^ S)=((hi*2 ^ S:Nat):Int):=by rw[← Nat.mod_eq_of_lt hA,← wrapN];simp
 have E5:bits .or .u64 ((hi*2 ^ S:Nat):Int) ((lo:Int) / 2 ^ (64 - S))=((hi*2 ^ S+lo / 2 ^ (64 - S):Nat):Int):=by
  rw[← hor,← u64_or_nat _ _ hA hL];simp
 have E6:IntKind.u64.wrap ((lo:Int)*2 ^ S)=((lo*2 ^ S%18446744073709551616:Nat):Int):=by rw[← wrapN];simp
 rw[← nd.1,← nd.2,← n2];have HP:Hid (0<2 ^ S):=Nat.two_pow_pos S;have hV:lo*2 ^ S%18446744073709551616<18446744073709551616:=Nat.mod_lt _ (by omega);clear nd hor n2 hbl hb64 h3 hy3;generalize hi*2 ^ S+lo / 2 ^ (64 - S)=u at *;generalize lo*2 ^ S%18446744073709551616=V at *;generalize hi*2 ^ S=A at *;generalize y*2 ^ S=Y at *;have E3:bits .and .u64 (Y:Int) 4294967295=((Y%4294967296:Nat):Int):=by have:=u64_and_nat Y 4294967295 k3 (by omega);rw[nat_mask32] at this;exact this
 have E8:bits .and .u64 (V:Int) 4294967295=((V%4294967296:Nat):Int):=by have:=u64_and_nat V 4294967295 hV (by omega);rw[nat_mask32] at this;exact this
 obtain⟨h,hh⟩ : ∃ h,h=Y / 4294967296:=⟨_,rfl⟩;obtain⟨d1,hd1⟩ : ∃ h,h=V / 4294967296:=⟨_,rfl⟩;have E2:(Y:Int) / 4294967296=(h:Int):=by omega
 have E7:(V:Int) / 4294967296=(d1:Int):=by omega
 have hh1' : 2147483648≤h:=by omega
 have hh2:h<4294967296:=by omega
 have hd2:d1<4294967296:=by omega
 have hYe:Y=h*4294967296+Y%4294967296:=by omega
 have hVe:V=d1*4294967296+V%4294967296:=by omega
 have hl:Y%4294967296<4294967296:=by omega
 have hd0:V%4294967296<4294967296:=by omega
 generalize Y%4294967296=l at *;generalize V%4294967296=d0 at *;rw[hYe,hVe,← hYe];obtain⟨q0,p0,r0,D,R,x1,x2,x3,a1,a2,a3,a4,a5,a6,a7,a8,a9,a10,a11,a12,a13,a14⟩:=pack u d1 h l Y hYe n1 k3 hh1' hh2 hl hd2;obtain⟨q0',p0',r0',D',R',y1,y2,y3,b1,b2,b3,b4,b5,b6,b7,b8,b9,b10,b11,b12,b13,b14⟩:=pack R d0 h l Y hYe a8 k3 hh1' hh2 hl hd0;have two:=jZ (u:=u) (d1:=d1) (d0:=d0) (Y:=Y) (by omega) rfl rfl;rw[← hYe] at a13 a14 b13 b14;rw[← a13,← a14,← b13,← b14] at two;rw[← two.1,← two.2];obtain⟨z1,c1,c2⟩:=aeT D D' (by omega) (by omega);obtain⟨z2,hz2⟩ : ∃ z,z=D*4294967296+D':=⟨_,rfl⟩;rw[← hz2] at c2 ⊢;clear hz2;have HY:=Lib.hid hYe;have HDE1:Hid (D=(u*4294967296+d1) / (h*4294967296+l)):=by rw[← hYe];exact a13
 have HDE2:Hid (D'=(R*4294967296+d0) / (h*4294967296+l)):=by rw[← hYe];exact b13
 have hYlo:h*4294967296≤Y:=by omega
 have hYhi:Y≤h*4294967296+l:=by omega
 have HDIG1:=Lib.hid a6;have HDIG2:=Lib.hid b6;clear hYe hVe a13 a14 b13 b14 two a6 b6 hh hd1 hS k2;have HZ:=Lib.hid hlz;clear hlz
 go_enter Tryz.func118,Tryz.ntmps118
 go_upto_block 0 with (go_at_call 147;refine (HZ.out _).mono ?_;rintro e w1 ⟨rfl,rfl⟩)
 go_cut [15,16] (fun q r w'=>q=.int .u64 (D:Int)∧w'=w)
 case first =>
  have HDE:=HDE1;have HDIG:=HDIG1;clear HDE1 HDE2 HDIG1 HDIG2 b1 b2 b3 b4 b5 b7 b8 b9 b10 b11 b12 c1 c2;go_wp2
  go_loop [16,15] (fun r q=>∃ qn rn:Nat,q=.int .u64 (qn:Nat)∧r=.int .u64 (rn:Nat)∧Hid (Dig u d1 h l qn rn)∧rn<4294967296) (fun _ q=>(intOf q).toNat)
  case atStart=>exact⟨q0,r0,rfl,rfl,HDIG,by assumption⟩
  case round =>
   obtain⟨q,r,rfl,rfl,HQ,hr⟩:=hrel;have hle:=HQ.out.le (by omega) hh1';have hq33:=hle.1;clear hle;have down:(4294967296≤q∨4294967296*r+d1<q*l)→1≤q∧Hid (Dig u d1 h l (q - 1) (r+h)):=fun hc=>HQ.out.down (by omega) (by omega) hh1' hc
   by_cases cA:4294967296≤q
   ·obtain⟨g1,g2⟩:=down (.inl cA);clear down;have tA:decide ((4294967296:Int)≤(q:Int))=true:=by simp;omega
    by_cases cB:4294967296≤r+h
    ·have tB:decide ((4294967296:Int)≤(r:Int)+(h:Int))=true:=by simp;omega
     have fin:=g2.out.break_ cB (by omega) (by omega) hh1';have FIN:Hid (q - 1=D):=by rw[HDE.out];exact fin
     clear fin;go_wp2
     go_meet
     case rel=>exact⟨by rw[← FIN.out,Int.ofNat_sub g1];rfl,rfl⟩
    ·have tB:decide ((4294967296:Int)≤(r:Int)+(h:Int))=false:=by simp;omega
     go_wp2
     go_round
     case rel=>exact⟨q - 1,r+h,by rw[Int.ofNat_sub g1];rfl,by go_num,g2,by omega⟩
     case measure=>simp[intOf];omega
   ·have tA:decide ((4294967296:Int)≤(q:Int))=false:=by simp;omega
    obtain⟨w1,w2,w3⟩:=testW (q:=q) (l:=l) (r:=r) (d:=d1) (by omega) (by omega) hr (by omega);have stop:q*l≤4294967296*r+d1→Hid (q=D):=fun hc=>by rw[HDE.out];exact HQ.out.stop hc hh1'
    generalize 4294967296*r+d1=m2 at *;generalize 4294967296*r=m3 at *;generalize q*l=m1 at *
    by_cases cC:m2<m1
    ·have tC:decide (m2<m1)=true:=by simp;omega
     obtain⟨g1,g2⟩:=down (.inr cC);clear down stop
     by_cases cB:4294967296≤r+h
     ·have tB:decide ((4294967296:Int)≤(r:Int)+(h:Int))=true:=by simp;omega
      have fin:=g2.out.break_ cB (by omega) (by omega) hh1';have FIN:Hid (q - 1=D):=by rw[HDE.out];exact fin
      clear fin;go_wp2
      go_meet
      case rel=>exact⟨by rw[← FIN.out,Int.ofNat_sub g1];rfl,rfl⟩
     ·have tB:decide ((4294967296:Int)≤(r:Int)+(h:Int))=false:=by simp;omega
      go_wp2
      go_round
      case rel=>exact⟨q - 1,r+h,by rw[Int.ofNat_sub g1];rfl,by go_num,g2,by omega⟩
      case measure=>simp[intOf];omega
    ·have tC:decide (m2<m1)=false:=by simp;omega
     have FIN:=stop (by omega);clear down stop;go_wp2
     go_meet
     case rel=>exact⟨by rw[← FIN.out],rfl⟩
 case rest =>
  obtain⟨rfl,rfl⟩:=hcut;clear HDE1 HDIG1
  go_upto_block 2 with (fail)
  go_cut [16,18] (fun r q w'=>q=.int .u64 (D' : Int)∧w'=wc)
  case first =>
   have HDE:=HDE2;have HDIG:=HDIG2;clear HDE2 HDIG2;go_wp2
   go_loop [16,18] (fun r q=>∃ qn rn:Nat,q=.int .u64 (qn:Nat)∧r=.int .u64 (rn:Nat)∧Hid (Dig R d0 h l qn rn)∧rn<4294967296) (fun _ q=>(intOf q).toNat)
   case atStart=>exact⟨q0',r0',rfl,rfl,HDIG,by assumption⟩
   case round =>
    obtain⟨q,r,rfl,rfl,HQ,hr⟩:=hrel;have hle:=HQ.out.le (by omega) hh1';have hq33:=hle.1;clear hle;have down:(4294967296≤q∨4294967296*r+d0<q*l)→1≤q∧Hid (Dig R d0 h l (q - 1) (r+h)):=fun hc=>HQ.out.down (by omega) (by omega) hh1' hc
    by_cases cA:4294967296≤q
    ·obtain⟨g1,g2⟩:=down (.inl cA);clear down;have tA:decide ((4294967296:Int)≤(q:Int))=true:=by simp;omega
     by_cases cB:4294967296≤r+h
     ·have tB:decide ((4294967296:Int)≤(r:Int)+(h:Int))=true:=by simp;omega
      have fin:=g2.out.break_ cB (by omega) (by omega) hh1';have FIN:Hid (q - 1=D'):=by rw[HDE.out];exact fin
      clear fin;go_wp2
      go_meet
      case rel=>exact⟨by rw[← FIN.out,Int.ofNat_sub g1];rfl,rfl⟩
     ·have tB:decide ((4294967296:Int)≤(r:Int)+(h:Int))=false:=by simp;omega
      go_wp2
      go_round
      case rel=>exact⟨q - 1,r+h,by rw[Int.ofNat_sub g1];rfl,by go_num,g2,by omega⟩
      case measure=>simp[intOf];omega
    ·have tA:decide ((4294967296:Int)≤(q:Int))=false:=by simp;omega
     obtain⟨w1,w2,w3⟩:=testW (q:=q) (l:=l) (r:=r) (d:=d0) (by omega) (by omega) hr (by omega);have stop:q*l≤4294967296*r+d0→Hid (q=D'):=fun hc=>by rw[HDE.out];exact HQ.out.stop hc hh1'
     generalize 4294967296*r+d0=m2 at *;generalize 4294967296*r=m3 at *;generalize q*l=m1 at *
     by_cases cC:m2<m1
     ·have tC:decide (m2<m1)=true:=by simp;omega
      obtain⟨g1,g2⟩:=down (.inr cC);clear down stop
      by_cases cB:4294967296≤r+h
      ·have tB:decide ((4294967296:Int)≤(r:Int)+(h:Int))=true:=by simp;omega
       have fin:=g2.out.break_ cB (by omega) (by omega) hh1';have FIN:Hid (q - 1=D'):=by rw[HDE.out];exact fin
       clear fin;go_wp2
       go_meet
       case rel=>exact⟨by rw[← FIN.out,Int.ofNat_sub g1];rfl,rfl⟩
      ·have tB:decide ((4294967296:Int)≤(r:Int)+(h:Int))=false:=by simp;omega
       go_wp2
       go_round
       case rel=>exact⟨q - 1,r+h,by rw[Int.ofNat_sub g1];rfl,by go_num,g2,by omega⟩
       case measure=>simp[intOf];omega
     ·have tC:decide (m2<m1)=false:=by simp;omega
      have FIN:=stop (by omega);clear down stop;go_wp2
      go_meet
      case rel=>exact⟨by rw[← FIN.out],rfl⟩
  case rest =>
   obtain⟨rfl,rfl⟩:=hcut;go_wp2
   go_ret2
   exact⟨by simp,Below.refl _ _⟩
def aae (l:List Nat):List Value:=l.map fun n=>.int .u64 ((n:Nat):Int)
theorem pD {l:List Nat} {j:Nat} (h:j<l.length):(aae l)[j]?=some (.int .u64 ((l.getD j 0:Nat):Int)):=by
 unfold aae;rw[List.getElem?_map,List.getD_eq_getElem?_getD,List.getElem?_eq_getElem h];rfl
theorem jk (l:List Nat) (j v:Nat):(aae l).set j (.int .u64 ((v:Nat):Int))=aae (l.set j v):=by
 unfold aae;rw[← List.map_set]
theorem qq (a:Nat) (w:World):(Instr.index 24 (zi a) (.int .i64 0)).run Tryz.prog w=.ok (.int .u64 ((wd 0 a:Nat):Int)) w:=by kernel_rfl
theorem qw (a:Nat) (w:World):(Instr.index 24 (zi a) (.int .i64 1)).run Tryz.prog w=.ok (.int .u64 ((wd 1 a:Nat):Int)) w:=by kernel_rfl
theorem qu (a:Nat) (w:World):(Instr.index 24 (zi a) (.int .i64 2)).run Tryz.prog w=.ok (.int .u64 ((wd 2 a:Nat):Int)) w:=by kernel_rfl
theorem qo (a:Nat) (w:World):(Instr.index 24 (zi a) (.int .i64 3)).run Tryz.prog w=.ok (.int .u64 ((wd 3 a:Nat):Int)) w:=by kernel_rfl
theorem tm (a:Nat) {i:Nat} (h:i<4) (w:World):(Instr.index 24 (zi a) (.int .i64 (i:Int))).run Tryz.prog w=.ok (.int .u64 ((wd i a:Nat):Int)) w:=by
 have:i=0∨i=1∨i=2∨i=3:=by omega
 rcases this with rfl|rfl|rfl|rfl
 ·exact qq a w
 ·exact qw a w
 ·exact qu a w
 ·exact qo a w
theorem run_arrayAt (g o c:Nat) (w:World):(Instr.arrayAt 24 (.slice (some ⟨g,o,none⟩) 4 c)).run Tryz.prog w=.ok (.pointer (some ⟨g,o,none⟩)) w:=by
 simp[Instr.arrayAt,go_sem,Tryz.underlying24]
set_option maxRecDepth 100000 in
theorem em (a b:Nat) (ha:a<zd) (hb:b<zd) (w:World) :
  Calls Tryz.prog 119 #[zi a,zi b] w fun e w'=>e=.returned (.tuple #[zi (a*b%zd),zi (a*b / zd)])∧Below w.heap.size w w':=by
 go_enter Tryz.func119,Tryz.ntmps119
 go_wp2;generalize hW:((((w.alloc _).alloc _).alloc _).alloc _).alloc _=W;have g6:Blk W (w.heap.size+1+1+1+1) 231 (aae (List.replicate 8 0)):=by subst hW;exact Blk.new' (by simp)
 have g3:Blk W (w.heap.size+1) 24 (zb b):=by subst hW;exact (((Blk.new' (by simp)).alloc _).alloc _).alloc _
 have g4:∃ cs,Blk W (w.heap.size+1+1) 24 cs∧cs.length=4:=by subst hW;exact⟨_,((Blk.new' (by simp)).alloc _).alloc _,rfl⟩
 have g5:∃ cs,Blk W (w.heap.size+1+1+1) 24 cs∧cs.length=4:=by subst hW;exact⟨_,(Blk.new' (by simp)).alloc _,rfl⟩
 have hbw:Below w.heap.size w W:=by subst hW;exact (((((Ext.rfl' w).alloc' _).alloc' _).alloc' _).alloc' _).alloc' _
 clear hW
 go_loopw [13] (fun i wr=>∃ (n:Nat) (l:List Nat),n≤4∧i=.int .i64 n∧uv a b n 0 0 l∧Blk wr (w.heap.size+1+1+1+1) 231 (aae l)∧Blk wr (w.heap.size+1) 24 (zb b) ∧
   (∃ cs,Blk wr (w.heap.size+1+1) 24 cs∧cs.length=4)∧(∃ cs,Blk wr (w.heap.size+1+1+1) 24 cs∧cs.length=4)∧Below w.heap.size w wr) (fun i _=>4 - (intOf i).toNat)
 case atStart=>exact⟨0,_,by omega,rfl,uv.start a b,g6,g3,g4,g5,hbw⟩
 case round =>
  clear g6 g3 g4 g5 hbw;obtain⟨n,l,hn,rfl,hI,g6,g3,g4,g5,hbw⟩:=hrel;have HI:=Lib.hid hI;clear hI;have G4:=Lib.hid g4;have G5:=Lib.hid g5;clear g4 g5
  by_cases hlt:n<4
  ·have hix:=tm a hlt;have hdec:decide ((n:Int)<4)=true:=by simp;omega
   have d0:=g3.cell_at (i:=0) rfl;have d1:=g3.cell_at (i:=1) rfl;have d2:=g3.cell_at (i:=2) rfl;have d3:=g3.cell_at (i:=3) rfl;obtain⟨wo,rfl⟩ : ∃ wo:World,wo=wr:=⟨_,rfl⟩;go_wp2
   go_loopw [9,18] (fun m i wr=>∃ (k mm:Nat) (l2:List Nat),k≤4∧i=.int .i64 k∧m=.int .u64 (mm:Nat)∧uv a b n k mm l2∧Blk wr (w.heap.size+1+1+1+1) 231 (aae l2)∧Blk wr (w.heap.size+1) 24 (zb b) ∧
    (∃ cs,Blk wr (w.heap.size+1+1) 24 cs∧cs.length=4)∧(∃ cs,Blk wr (w.heap.size+1+1+1) 24 cs∧cs.length=4)∧Below w.heap.size w wr) (fun _ i _=>4 - (intOf i).toNat)
   case atStart=>exact⟨0,0,l,by omega,rfl,rfl,HI.out,g6,g3,G4.out,G5.out,hbw⟩
   case round =>
    clear d0 d1 d2 d3 g6 g3 G4 G5 hbw HI hix hdec;obtain⟨k,mm,l2,hk,rfl,rfl,hI,g6,g3,g4,g5,hbw⟩:=hrel;have hmm:mm≤18446744073709551615:=by have:=hI.2.2.1;omega
    have hlen:=hI.1
    by_cases hkt:k<4
    ·have hix:=tm b hkt;have hdec:decide ((k:Int)<4)=true:=by simp;omega
     have hstep:=hI.step hlt hkt;have hc:=g6.cell_at (pD (l:=l2) (j:=n+k) (by omega));have hf:=g6.frozen (n+k);have hlx:l2.getD (n+k) 0<18446744073709551616:=by
      rw[List.getD_eq_getElem?_getD,List.getElem?_eq_getElem (by omega),Option.getD_some];exact hI.2.1 _ (List.getElem_mem _)
     have hct:=mw (wd n a) (wd k b) (l2.getD (n+k) 0) mm (yf n a) (yf k b) hlx (by omega);generalize hX:l2.getD (n+k) 0=X at *;have HX:=Lib.hid hX;clear hX;generalize hR:(wd n a*wd k b+X+mm)%18446744073709551616=R at *;generalize hH:(wd n a*wd k b+X+mm) / 18446744073709551616=H at *;have HI:=Lib.hid hI;have HS:=Lib.hid hstep;have HL:=Lib.hid hlen;have G4:=Lib.hid g4;have G5:=Lib.hid g5;have HC:=Lib.hid hct;clear hI hstep hlen g4 g5 hct hR hH
     go_wp2_with (go_at_call 148;refine (HC.out _).mono ?_;rintro e w1 ⟨rfl,rfl⟩)
     go_roundw
     case rel =>
      refine⟨k+1,H,l2.set (n+k) R,by omega,by go_num,rfl,HS.out,?_,g3.far (by simp) _,?_,?_,hbw.setCell (by simp;omega) _⟩
      ·have:=g6.set_ (n+k) (.int .u64 ((R:Nat):Int));rw[jk] at this;exact this
      ·obtain⟨cs,h1,h2⟩:=G4.out;exact⟨cs,h1.far (by simp) _,h2⟩
      ·obtain⟨cs,h1,h2⟩:=G5.out;exact⟨cs,h1.far (by simp) _,h2⟩
     case measure=>simp[intOf];omega
    ·obtain rfl:k=4:=by omega
     have hc:=g6.cell_at (pD (l:=l2) (j:=n+4) (by omega));have hf:=g6.frozen (n+4);have hnx:=hI.next hb hlt
     have HS:=Lib.hid hnx;have G4:=Lib.hid g4;have G5:=Lib.hid g5;clear hI hlen g4 g5 hnx;go_wp2
     go_roundw
     case rel =>
      refine⟨n+1,l2.set (n+4) mm,by omega,by go_num,HS.out,?_,g3.far (by simp) _,?_,?_,hbw.setCell (by simp;omega) _⟩
      ·have:=g6.set_ (n+4) (.int .u64 ((mm:Nat):Int));rw[jk] at this;exact this
      ·obtain⟨cs,h1,h2⟩:=G4.out;exact⟨cs,h1.far (by simp) _,h2⟩
      ·obtain⟨cs,h1,h2⟩:=G5.out;exact⟨cs,h1.far (by simp) _,h2⟩
     case measure=>simp[intOf];omega
  ·obtain rfl:n=4:=by omega
   have hI:=HI.out;have hend:=aaq hI ha;have hlen:=hI.1;have hbl:∀ j,j<8→l.getD j 0<18446744073709551616:=fun j hj=>by
    rw[List.getD_eq_getElem?_getD,List.getElem?_eq_getElem (by omega),Option.getD_some];exact hI.2.1 _ (List.getElem_mem _)
   have q:=fun j (hj:j<8)=>g6.cell_at (pD (l:=l) (j:=j) (by omega));have e1:=si (hbl 0 (by omega)) (hbl 1 (by omega)) (hbl 2 (by omega)) (hbl 3 (by omega));have e2:=si (hbl 4 (by omega)) (hbl 5 (by omega)) (hbl 6 (by omega)) (hbl 7 (by omega));rw[hend.1] at e1;rw[hend.2] at e2;have c0:=q 0 (by omega);have c1:=q 1 (by omega);have c2:=q 2 (by omega);have c3:=q 3 (by omega);have c4:=q 4 (by omega);have c5:=q 5 (by omega);have c6:=q 6 (by omega);have c7:=q 7 (by omega);have E1:=Lib.hid e1;have E2:=Lib.hid e2;obtain⟨cs4,k4,l4⟩:=G4.out;obtain⟨cs5,k5,l5⟩:=G5.out
   match cs4,l4,cs5,l5 with
   | [p0,p1,p2,p3],_,[r0,r1,r2,r3],_ =>
   have a0:=k4.cell_at (i:=0) rfl;have a1:=k4.cell_at (i:=1) rfl;have a2:=k4.cell_at (i:=2) rfl;have a3:=k4.cell_at (i:=3) rfl;have b0:=k5.cell_at (i:=0) rfl;have b1:=k5.cell_at (i:=1) rfl;have b2:=k5.cell_at (i:=2) rfl;have b3:=k5.cell_at (i:=3) rfl;have ff4:=k4.frozen;have ff5:=k5.frozen;clear hend hlen hbl q e1 e2 G4 G5 HI hI;generalize l.getD 0 0=x0 at *;generalize l.getD 1 0=x1 at *;generalize l.getD 2 0=x2 at *;generalize l.getD 3 0=x3 at *;generalize l.getD 4 0=x4 at *;generalize l.getD 5 0=x5 at *;generalize l.getD 6 0=x6 at *;generalize l.getD 7 0=x7 at *;have hat1:=fun w'=>run_arrayAt (w.heap.size+1+1+1+1) 0 8 w';have hat2:=fun w'=>run_arrayAt (w.heap.size+1+1+1+1) 4 4 w';go_wp2;go_region;go_wp2;refine bodyPost_ret (v:=.tuple #[zi (a*b%zd),zi (a*b / zd)]) ?_ rfl ⟨rfl,?_⟩
   ·rw[← E1.out,← E2.out];simp[results,Tryz.results119,go_sem,a0,a1,a2,a3,b0,b1,b2,b3]
   ·((repeat' (with_reducible first|exact hbw|refine Below.drew ?_|refine Below.drewN' ?_ _|refine Below.setCell ?_ ?_ _|refine Below.alloc ?_ ?_ _))<;>(first|omega|(simp;done)|(simp;omega)))
end
end Go.Proofs.YteibfbjpkjkejaaGreatDoor
