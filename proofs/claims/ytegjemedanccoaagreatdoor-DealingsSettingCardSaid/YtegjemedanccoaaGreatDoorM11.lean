/- Part 11 of the proof. -/
import Derived.Test.YtegjemedanccoaaGreatDoorM03
import Derived.Test.YtegjemedanccoaaGreatDoorM10
import Derived.OwnWalk
import Derived.Laws.AppendOwnNone
import Derived.RangeFuncNested
import Derived.RangeFuncBound
import Derived.RangeFuncCalls
import Derived.RangeFuncBox
import Derived.RangeFuncLeaves
import Derived.RangeFuncFrom
import Derived.Shelf.Abstract
import Derived.Shelf.RegionOpen
import Derived.OwnWalkIn
import Derived.TacticsInMore
import Derived.LoopNIn
import Derived.LoopIn
set_option linter.unusedSimpArgs false
set_option linter.unusedVariables false
set_option maxHeartbeats 8000000
namespace Go.Proofs.YtegjemedanccoaaGreatDoor
section
open Go.RowKit
def Rd (w:World) (v:Value) (xs:List Value):Prop :=
 (∀ u∈xs,u.oneCell'=true)∧((v=.slice none 0 0∧xs=[])∨∃ (a:Addr) (c:Nat),v=.slice (some a) xs.length c∧a.block<w.heap.size∧∀ j u,xs[j]?=some u→w.cell? (a.add j)=some u)
theorem add_block (a:Addr) (j:Nat):(a.add j).block=a.block:=by unfold Addr.add;split<;>rfl
theorem Rd.below {w w' : World} {v:Value} {xs:List Value} {B:Nat} (h:Rd w v xs) (hB:w.heap.size=B) (hb:Below B w w'):Rd w' v xs:=by
 subst hB;obtain⟨h1,h2|⟨a,c,h2,h3,h4⟩⟩:=h
 ·exact⟨h1,.inl h2⟩
 ·exact⟨h1,.inr ⟨a,c,h2,Nat.lt_of_lt_of_le h3 hb.size,fun j u hj=>(hb.cell (p:=a.add j) (by rw[add_block];exact h3)).trans (h4 j u hj)⟩⟩
def mh (n1 n2 k:Nat):Nat:=if k=0 then 0 else if k=1 then n1 else n1+n2
def abA (xs1 xs2:List Value) (k:Nat):List Value:=if k=0 then [] else if k=1 then xs1 else xs1++xs2
theorem qK {B:Nat} {w0 w w' : World} {e:TypeId} {size n:Nat} {v:Value} {xs:List Value} (hB:B≤w.heap.size) (hb:Below B w0 w) (h:w.ownsRow B e size v n xs) (hg:w.grownBy w' v.ownBlock):Below B w0 w':=by
 refine hb.grown hg hB (fun k e=>?_)
 rcases h.2 with ⟨rfl,_⟩|⟨g,cap,cur,rfl,hB,_⟩
 ·cases e
 ·cases e;exact hB
set_option maxRecDepth 100000 in
theorem tV (v1 v2:Value) (xs1 xs2:List Value) (S c:Nat) (w:World) (h1:Rd w v1 xs1) (h2:Rd w v2 xs2) (hS:Blk w S 174 [v1,v2]) (hn:0<xs1.length+xs2.length) (hm:xs1.length+xs2.length≤1099511627776) :
  Calls Tryz.prog 144 #[.slice (some ⟨S,0,none⟩) 2 c] w fun e w' =>
   ∃ v,e=.returned v∧w'.ownsRow w.heap.size 22 1 v (xs1.length+xs2.length) (xs1++xs2)∧Below w.heap.size w w':=by
 have hb1:∃ b n c,v1=.slice b n c∧n=xs1.length:=by
  obtain⟨_,⟨rfl,rfl⟩|⟨a,c,rfl,_⟩⟩:=h1
  ·exact⟨_,_,_,rfl,rfl⟩
  ·exact⟨_,_,_,rfl,rfl⟩
 have hb2:∃ b n c,v2=.slice b n c∧n=xs2.length:=by
  obtain⟨_,⟨rfl,rfl⟩|⟨a,c,rfl,_⟩⟩:=h2
  ·exact⟨_,_,_,rfl,rfl⟩
  ·exact⟨_,_,_,rfl,rfl⟩
 obtain⟨b1,n1,c1,rfl,e1⟩:=hb1;obtain⟨b2,n2,c2,rfl,e2⟩:=hb2;rw[← e1,← e2] at hn hm ⊢;have lS:=hS.lt;have cS0:=hS.cell_at (i:=0) rfl;have cS1:=hS.cell_at (i:=1) rfl;have H1:=Lib.hid h1;have H2:=Lib.hid h2;have E1:=Lib.hid e1;have E2:=Lib.hid e2;clear h1 h2 e1 e2
 go_enter Tryz.func144,Tryz.ntmps144
 go_wp2
 go_loopw [3,11] (fun t3 t11 wr=>∃ k:Nat,k≤2∧t11=.int .i64 k∧t3=.int .i64 (mh n1 n2 k:Nat)∧wr=w) (fun _ i _=>2 - (intOf i).toNat)
 case atStart=>exact⟨0,by omega,rfl,rfl,rfl⟩
 case round =>
  obtain⟨k,hk,rfl,rfl,rfl⟩:=hrel;have hk3:k=0∨k=1∨k=2:=by omega
  rcases hk3 with rfl|rfl|rfl
  ·have ht0:mh n1 n2 0=0:=rfl;rw[ht0];go_wp2
   go_roundw
   case rel=>exact⟨1,by omega,rfl,by simp[mh],trivial⟩
   case measure=>simp[intOf]
  ·have ht0:mh n1 n2 1=n1:=rfl;rw[ht0];go_wp2
   go_roundw
   case rel=>exact⟨2,by omega,rfl,by simp[mh],trivial⟩
   case measure=>simp[intOf]
  ·have ht0:mh n1 n2 2=n1+n2:=rfl;rw[ht0]
   go_wp2_with (go_at_call 159;refine (rz (n1+n2) hn hm _).mono ?_;rintro e W ⟨v,rfl,hown,hbw⟩)
   obtain⟨w,rfl⟩ : ∃ w:World,w=wr:=⟨_,rfl⟩;clear cS0 cS1 ht0
   go_loopw [6,27] (fun t6 t27 wr=>∃ (x6:Value) (k:Nat),x6=t6∧k≤2∧t27=.int .i64 k∧wr.ownsRow w.heap.size 22 1 x6 (mh n1 n2 k) (abA xs1 xs2 k)∧Below w.heap.size w wr) (fun _ i _=>2 - (intOf i).toNat)
   case atStart=>exact⟨_,0,rfl,by omega,rfl,hown,hbw⟩
   case round =>
    clear hown hbw;obtain⟨x6,k,rfl,hk,rfl,hown,hbw⟩:=hrel;have hinfo:(Tryz.prog.info? 22).map (fun i=>(i.zero,i.size,i.bytes))=some (some (.int .u64 0),1,8):=by kernel_rfl
    obtain⟨i0,hi,hz0,hz1,hz2⟩:=info_parts hinfo;have hk3:k=0∨k=1∨k=2:=by omega
    rcases hk3 with rfl|rfl|rfl
    ·have c0:=(hS.below hbw lS).cell_at (i:=0) rfl;have hr:=H1.out.below rfl hbw;have e1:=E1.out;obtain⟨ho,⟨e,rfl⟩|⟨a,c',e,hlt,hc⟩⟩:=hr
     ·obtain⟨rfl,q1,q2⟩ : b1=none∧n1=0∧c1=0:=by cases e;exact⟨rfl,rfl,rfl⟩
      have hx0:Value.slice none n1 c1=.slice none 0 0:=by rw[q1,q2]
      have Q:=Lib.hid q1;clear e1 ho e q1 q2;have HX:=Lib.hid hx0;clear hx0
      go_wp2_with (at_builtin;refine wpList_append_own_none rfl _ _ 174 rfl w.heap.size 22 i0 1 Tryz.underlying174 hi x6 _ _ rfl hown HX.out ?_)
      go_roundw
      case rel=>exact⟨_,1,rfl,by omega,rfl,by simpa [mh,abA,Q.out] using hown,hbw⟩
      case measure=>simp[intOf]
     ·cases e;clear e1
      go_wp2_with (at_builtin;refine wpList_append_own _ rfl _ _ 174 rfl w.heap.size 22 i0 (.int .u64 0) 1 8 Tryz.underlying174 hi hz0 hz1 hz2 rfl (by decide) x6 _ _ rfl hown a xs1.length _ xs1 rfl (by simp) hc ho (by simp[mh,maxLen];omega) (by simp[mh];omega) hbw.size ?_;intro v' w1 hown' hgrow _)
      go_roundw
      case rel=>exact⟨_,1,rfl,by omega,rfl,by simpa [mh,abA] using hown',qK hbw.size hbw hown hgrow⟩
      case measure=>simp[intOf]
    ·have c0:=(hS.below hbw lS).cell_at (i:=1) rfl;have hr:=H2.out.below rfl hbw;have e1:=E2.out;obtain⟨ho,⟨e,rfl⟩|⟨a,c',e,hlt,hc⟩⟩:=hr
     ·obtain⟨rfl,q1,q2⟩ : b2=none∧n2=0∧c2=0:=by cases e;exact⟨rfl,rfl,rfl⟩
      have hx0:Value.slice none n2 c2=.slice none 0 0:=by rw[q1,q2]
      have Q:=Lib.hid q1;clear e1 ho e q1 q2;have HX:=Lib.hid hx0;clear hx0
      go_wp2_with (at_builtin;refine wpList_append_own_none rfl _ _ 174 rfl w.heap.size 22 i0 1 Tryz.underlying174 hi x6 _ _ rfl hown HX.out ?_)
      go_roundw
      case rel=>exact⟨_,2,rfl,by omega,rfl,by simpa [mh,abA,Q.out] using hown,hbw⟩
      case measure=>simp[intOf]
     ·cases e;clear e1
      go_wp2_with (at_builtin;refine wpList_append_own _ rfl _ _ 174 rfl w.heap.size 22 i0 (.int .u64 0) 1 8 Tryz.underlying174 hi hz0 hz1 hz2 rfl (by decide) x6 _ _ rfl hown a xs2.length _ xs2 rfl (by simp) hc ho (by simp[mh,maxLen];omega) (by simp[mh];omega) hbw.size ?_;intro v' w1 hown' hgrow _)
      go_roundw
      case rel=>exact⟨_,2,rfl,by omega,rfl,by simpa [mh,abA] using hown',qK hbw.size hbw hown hgrow⟩
      case measure=>simp[intOf]
    ·go_wp2
     go_ret
     refine⟨_,rfl,?_,hbw⟩;simpa [mh,abA] using hown
end
section
open Go.RowKit Go.Shelf
attribute [local go_sem] Oper.semAt_some
def upto {α:Type} (f:Nat→α) (k:Nat):List α:=(List.range k).map f
theorem iH {α:Type} (f:Nat→α) (k:Nat):upto f (k+1)=upto f k++[f k]:=by simp[upto,List.range_succ]
theorem m4 {α:Type} (f:Nat→α) (k:Nat):(upto f k).length=k:=by simp[upto]
abbrev U64:Type:={ n:Nat // n<18446744073709551616 }
instance:Inhabited U64:=⟨⟨0,by omega⟩⟩
def uw (b c:Nat) (A B:World):Prop:=B.heap[b]?=A.heap[b]?∧B.heap[c]?=A.heap[c]?
theorem uw.refl (b c:Nat) (A:World):uw b c A A:=⟨rfl,rfl⟩
theorem uw.trans {b c:Nat} {A B C:World} (h:uw b c A B) (k:uw b c B C):uw b c A C:=⟨k.1.trans h.1,k.2.trans h.2⟩
theorem uw.cell1 {b c:Nat} {A B:World} (h:uw b c A B) (j:Nat):B.cell? ⟨b,j,none⟩=A.cell? ⟨b,j,none⟩:=World.cell?_of_block (a:=⟨b,j,none⟩) h.1
theorem uw.cell2 {b c:Nat} {A B:World} (h:uw b c A B) (j:Nat):B.cell? ⟨c,j,none⟩=A.cell? ⟨c,j,none⟩:=World.cell?_of_block (a:=⟨c,j,none⟩) h.2
theorem uw.put {b c:Nat} {w:World} (hb:b<w.heap.size) (hc:c<w.heap.size) (W:World) (l:Nat) (o o' : Obj) (hl:w.heap.size≤l) (_:W.heap[l]?=some o) (_:o.isCells=false) (_:o.isWalk=false):uw b c W (W.putObj l o') :=
 ⟨World.putObj_heap_other (by omega),World.putObj_heap_other (by omega)⟩
def sP (zs:List U64) (j:Nat):Nat × U64:=(zs.length - 1 - j,zs[zs.length - 1 - j]?.getD default)
set_option maxRecDepth 100000 in
theorem oU (F:Fence) (n:Nat) (hf:F.fn 160) (hro:F.round=none) (hn:1≤n) (l Bs b cap:Nat) (zs:List U64) (hreach:zs.length≤1099511627776) (J Jx:List (Nat × U64)→World→Prop)
  (hY:∀ pre x W,J pre W→pre.length<zs.length→YieldAt F (n - 1) Tryz.prog l #[.int .i64 (x.1:Int),.int .u64 (x.2.1:Int)] W fun e W' =>
   (e=.returned (.bool true)∧J (pre++[x]) W'∧uw b Bs W W')∨(e=.returned (.bool false)∧Jx (pre++[x]) W'))
  (W:World) (hBs:W.cell? ⟨Bs,0,none⟩=some (.slice (some ⟨b,0,none⟩) zs.length cap)) (hc:∀ j,j<zs.length→W.cell? ⟨b,j,none⟩=some (.int .u64 ((zs[j]?.getD default).1:Int))) (h0:J [] W) :
  CallsIn F n Tryz.prog 160 #[.func (.yield l) #[] #[],.pointer (some ⟨Bs,0,none⟩)] W fun e W'=>(∃ v,e=.returned v) ∧
   ((∃ ys,ys=upto (sP zs) zs.length∧J ys W')∨(∃ pre,(∃ k,k≤zs.length∧pre=upto (sP zs) k)∧Jx pre W')):=by
 refine callsIn_of_wp Tryz.func160 rfl hf ?_ hro;simp only[Tryz.ntmps160,List.size_toArray,List.length_cons,List.length_nil,Nat.reduceAdd,Nat.reduceSub,Array.replicate_succ,Array.replicate_zero,List.push_toArray,List.append_toArray,List.nil_append,List.cons_append]
 gi_wp2
 gi_loopw [3] (fun i wr=>∃ k:Nat,k≤zs.length∧i=.int .i64 ((zs.length:Int) - 1 - (k:Int))∧J (upto (sP zs) k) wr∧uw b Bs W wr)
  (fun i _=>(intOf i+1).toNat)
 case atStart=>exact⟨0,Nat.zero_le _,by simp,h0,uw.refl _ _ _⟩
 case round =>
  obtain⟨k,hk,hi,hJs,hnx⟩:=hrel;have hBs':=(hnx.cell2 0).trans hBs
  by_cases hlt:k<zs.length
  ·rw[show (zs.length:Int) - 1 - (k:Int)=((zs.length - 1 - k:Nat):Int) by omega] at hi;subst hi;have hjl:zs.length - 1 - k<zs.length:=by omega
   have hcx:=(hnx.cell1 _).trans (hc _ hjl);obtain⟨fn,tmps,assign,body,hy,hR⟩:=hY _ (sP zs k) wr hJs (by rw[m4];exact hlt);have hse:=iH (sP zs) k;unfold sP at hy;dsimp only at hy;generalize hj:zs.length - 1 - k=j at *;generalize hz:zs[j]?.getD default=z at *;have hbk:sP zs k=(j,z):=by simp only[sP,hj,hz]
   have hjz:(j:Int)<(zs.length:Int):=by omega
   have hnext:(j:Int) - 1=(zs.length:Int) - 1 - ((k+1:Nat):Int):=by omega
   have HN:=Lib.hid hnext;clear hnext
   gi_wp2
   refine hR.mono ?_;rintro e W3 (⟨rfl,hJ3,hk3⟩|⟨rfl,hJx3⟩)
   ·gi_wp2
    go_roundw
    case rel=>exact⟨k+1,by omega,by rw[← HN.out],by rw[hse];exact hJ3,hnx.trans hk3⟩
    case measure=>first|(simp[intOf];done)|(simp[intOf];omega)
   ·gi_wp2
    refine bodyPost_ret (results_none rfl _ _ _) rfl ?_;exact⟨⟨_,rfl⟩,.inr ⟨_,⟨k+1,by omega,hse.symm⟩,hJx3⟩⟩
  ·obtain rfl:k=zs.length:=by omega
   rw[show (zs.length:Int) - 1 - (zs.length:Int) = -1 by omega] at hi;subst hi
   gi_wp2
   go_end0
   exact⟨⟨_,rfl⟩,.inl ⟨_,rfl,hJs⟩⟩
theorem qm (n:Nat) (hn:1≤n) (Bs b cap:Nat) (zs:List U64) (hreach:zs.length≤1099511627776) (w:World) (hBn:Bs<w.heap.size) (hb:b<w.heap.size)
  (hBs:w.cell? ⟨Bs,0,none⟩=some (.slice (some ⟨b,0,none⟩) zs.length cap)) (hc:∀ j,j<zs.length→w.cell? ⟨b,j,none⟩=some (.int .u64 ((zs[j]?.getD default).1:Int))) :
  SeqStopsK Fence.wide n Tryz.prog 160 #[.pointer (some ⟨Bs,0,none⟩)] (fun x:Nat × U64=>#[Value.int .i64 (x.1:Int),Value.int .u64 (x.2.1:Int)]) (uw b Bs) (fun ys=>ys=upto (sP zs) zs.length)
   (fun pre=>∃ k,k≤zs.length∧pre=upto (sP zs) k) zs.length w:=fun l J Jx W hW _ _ hY h0 =>
 oU Fence.wide n trivial rfl hn l Bs b cap zs hreach J Jx hY W ((hW.cell (p:=⟨Bs,0,none⟩) hBn).trans hBs) (fun j hj=>(hW.cell (p:=⟨b,j,none⟩) hb).trans (hc j hj)) h0
theorem rF (a:Option Addr) (len cap:Nat) (w:World) :
  Calls Tryz.prog 145 #[.slice a len cap] w fun e w'=>e=.returned (.func (.func 160) #[] #[.pointer (some ⟨w.heap.size,0,none⟩)])∧w'=w.alloc (.cells #[.slice a len cap] 174):=by
 go_enter Tryz.func145,Tryz.ntmps145
 go_wp2
 go_ret
 exact⟨rfl,rfl⟩
theorem nT {W W' : World} (h:Ext W W'):KeepsOthers W W':=⟨h.size,fun k o hk _=>(h.block k (Array.getElem?_eq_some_iff.1 hk).1).trans hk⟩
theorem Blk.own {A B:World} {row:Option Nat} {g:Nat} {t:TypeId} {cs:List Value} (h:Blk A g t cs) (hg:A.grownBy B row) (hr:∀ r,row=some r→∃ o:Obj,A.heap[r]?=some o∧o.isCells=false):Blk B g t cs:=by
 refine h.grown hg (fun e=>?_);obtain⟨o,h1,h2⟩:=hr g e.symm;unfold Blk at h;rw[h] at h1;cases h1;cases h2
end
section
open Go.RowKit
theorem fW {a k:Nat} (hx:wd k a=0) (hz:∀ j,k<j→j<4→wd j a=0) (j:Nat) (h1:k≤j) (h2:j<4):wd j a=0:=by
 rcases Nat.lt_or_eq_of_le h1 with h|h
 ·exact hz j h h2
 ·subst h;exact hx
theorem uY (a:Nat) (ha:a<zc) (w:World) :
  Calls Tryz.prog 60 #[ze a] w fun e w'=>e=.returned (.int .i64 (zu a:Nat))∧Below w.heap.size w w':=by
 go_enter Tryz.func60,Tryz.ntmps60
 go_wp2;generalize hW:w.alloc _=W;have hg0:Blk W w.heap.size 24 (zb a):=by subst hW;exact Blk.new _ _ _
 have hb:Below w.heap.size w W:=by subst hW;exact (Ext.rfl' w).alloc' _
 clear hW
 go_loop [3] (fun i=>(i=.int .i64 (-1)∧∀ j,j<4→wd j a=0)∨∃ k:Nat,k<4∧i=.int .i64 k∧∀ j,k<j→j<4→wd j a=0) (fun i=>(intOf i+1).toNat)
 case atStart=>exact .inr ⟨3,by omega,rfl,fun j h1 h2=>by omega⟩
 case round =>
  rcases hrel with ⟨rfl,hz⟩|⟨k,hk,rfl,hz⟩
  ·have hres:=iG ha hz;subst hres;clear hz;go_wp2
   go_ret
   exact⟨by simp[zu],hb⟩
  ·have c0:=hg0.cell_at (y6 a hk)
   by_cases hx:wd k a=0
   ·have Hz:=Lib.hid hz;clear hz;go_wp2
    go_round
    case rel =>
     by_cases h0:k=0
     ·subst h0;exact .inl ⟨rfl,fun j hj=>fW hx Hz.out j (by omega) hj⟩
     ·exact .inr ⟨k - 1,by omega,by rw[show ((k - 1:Nat):Int)=(k:Int) - 1 by omega],fun j h1 h2=>fW hx Hz.out j (by omega) h2⟩
    case measure=>first|(simp[intOf];done)|(simp[intOf];omega)
   ·have hres:=jp ha hk hz hx;have Hr:=Lib.hid hres;clear hres hz;have hpos:0<wd k a:=by omega
    have hle:=abK k a;have hlb:=y4 (k:=64) (yf k a);have hbl:=bitLen_eq (yf k a)
    go_wp2_with (go_at_call 96;refine (Tryz.bits_Len64 _ _ (by omega) (by omega)).mono ?_;rintro e w1 ⟨rfl,rfl⟩)
    go_ret
    refine⟨?_,hb⟩;rw[Hr.out];exact congrArg (fun z:Int=>Ending.returned (.int .i64 z)) (by simp)
theorem and_one (n:Nat) (h:n<18446744073709551616):bits .and .u64 (n:Int) 1=((n%2:Nat):Int):=by
 have:=u64_and_nat n 1 h (by omega);rw[nat_mask1] at this;exact this
theorem rU (a:Nat) (i:Int) (ha:a<zc) (hi0:0≤i) (hi1:i≤1000000) (w:World) :
  Calls Tryz.prog 134 #[ze a,.int .i64 i] w fun e w'=>e=.returned (.int .u64 (ug a i.toNat:Nat))∧Below w.heap.size w w':=by
 obtain⟨n,rfl⟩:=Int.eq_ofNat_of_zero_le hi0;rw[Int.toNat_natCast]
 by_cases h:n<256
 ·have hq:n / 64<4:=by omega
  have hb:=kZ ha (n / 64) (n%64) hq (Nat.mod_lt _ (by omega));rw[show 64*(n / 64)+n%64=n by omega] at hb;have hw:=yf (n / 64) a;have hw2:wd (n / 64) a / 2 ^ (n%64)<18446744073709551616:=Nat.lt_of_le_of_lt (Nat.div_le_self _ _) hw;have ho:=and_one _ hw2;have Hb:=Lib.hid hb;clear hb;have c0:=(Blk.new w 24 (zb a)).cell_at (y6 a hq);have hd1:decide ((n:Int)<0)=false:=by simp
  have hd2:decide (256≤(n:Int))=false:=by simp;omega
  go_enter Tryz.func134,Tryz.ntmps134
  go_wp2
  go_ret
  refine⟨congrArg (fun z:Int=>Ending.returned (.int .u64 z)) ?_,(Ext.rfl' w).alloc' _⟩;show bits .and .u64 ((wd (n / 64) a:Nat) / 2 ^ (n%64):Int) 1=_;rw[show ((wd (n / 64) a:Nat) / 2 ^ (n%64):Int)=((wd (n / 64) a / 2 ^ (n%64):Nat):Int) by simp,ho,Hb.out]
 ·have hb:=fh ha (i:=n) (by omega);have hd1:decide ((n:Int)<0)=false:=by simp
  have hd2:decide (256≤(n:Int))=true:=by simp;omega
  go_enter Tryz.func134,Tryz.ntmps134
  go_wp2
  go_ret
  exact⟨by simp[hb],(Ext.rfl' w).alloc' _⟩
theorem ll (a b c d:Nat) (ha:a<18446744073709551616) (hb:b<18446744073709551616) (hc:c<18446744073709551616) (hd:d<18446744073709551616) :
  a*b / 18446744073709551616≤18446744073709551614∧a*b%18446744073709551616<18446744073709551616 ∧
  (a*b%18446744073709551616+c) / 18446744073709551616≤1∧((a*b%18446744073709551616+c)%18446744073709551616+d) / 18446744073709551616≤1 ∧
  a*b / 18446744073709551616+(a*b%18446744073709551616+c) / 18446744073709551616+((a*b%18446744073709551616+c)%18446744073709551616+d) / 18446744073709551616≤18446744073709551615 ∧
  (a*b+c+d)%18446744073709551616=((a*b%18446744073709551616+c)%18446744073709551616+d)%18446744073709551616 ∧
  (a*b+c+d) / 18446744073709551616=a*b / 18446744073709551616+(a*b%18446744073709551616+c) / 18446744073709551616+((a*b%18446744073709551616+c)%18446744073709551616+d) / 18446744073709551616:=by
 have hm:a*b≤18446744073709551615*18446744073709551615:=Nat.mul_le_mul (by omega) (by omega);generalize a*b=p at *;omega
theorem mT (a b c d:Nat) (ha:a<18446744073709551616) (hb:b<18446744073709551616) (hc:c<18446744073709551616) (hd:d<18446744073709551616) (w:World) :
  Calls Tryz.prog 155 #[.int .u64 (a:Int),.int .u64 (b:Int),.int .u64 (c:Int),.int .u64 (d:Int)] w fun e w' =>
   e=.returned (.tuple #[.int .u64 (((a*b+c+d)%18446744073709551616:Nat):Int),.int .u64 (((a*b+c+d) / 18446744073709551616:Nat):Int)])∧w=w':=by
 have hA0:∀ (x y:Nat) (w:World),(callFunc 158 #[.int .u64 x,.int .u64 y,.int .u64 0]).run Tryz.prog w =
   .ok (.value (.tuple #[.int .u64 (((x+y)%18446744073709551616:Nat):Int),.int .u64 (((x+y) / 18446744073709551616:Nat):Int)])) w:=fun x y w=>nZ x y 0 (by omega) w
 have hM:=Tryz.bits_Mul64 a b ha hb;obtain⟨h1,h2,h3,h4,h5,e1,e2⟩:=ll a b c d ha hb hc hd;rw[e1,e2];clear e1 e2;generalize a*b / 18446744073709551616=H at *;generalize a*b%18446744073709551616=L at *;have A1:=hA0 L c;generalize (L+c)%18446744073709551616=S1 at *;generalize (L+c) / 18446744073709551616=C1 at *;have A2:=hA0 S1 d;generalize (S1+d)%18446744073709551616=S2 at *;generalize (S1+d) / 18446744073709551616=C2 at *;clear hA0;have HM:=Lib.hid hM;clear hM
 go_enter Tryz.func155,Tryz.ntmps155
 go_wp2_with (go_at_call 135;refine (HM.out _).mono ?_;rintro e w1 ⟨rfl,rfl⟩)
 go_ret2
 exact⟨by simp,rfl⟩
end
end Go.Proofs.YtegjemedanccoaaGreatDoor
