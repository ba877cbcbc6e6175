/- Part 8 of the proof. -/
import Derived.Test.YtiaibpcaloigkaaGreatDoorG02
import Derived.Test.YtiaibpcaloigkaaGreatDoorProg
import Derived.StillTailTactics
import Derived.BigQuiet
import Derived.Deep.QuietTactic
import Derived.Deep.RegionHeld3
import Derived.Deep.LoopGhost
import Derived.Shelf.Spec.BitsCarry
import Derived.Handy
import Derived.OwnWalk
import Derived.Laws.AppendOwnNone
import Derived.RangeFuncNested
import Derived.RangeFuncBound
import Derived.RangeFuncCalls
import Derived.RangeFuncBox
import Derived.RangeFuncLeaves
import Derived.RangeFuncFrom
import Derived.Shelf.Abstract
import Derived.Shelf.RegionOpen
import Derived.OwnWalkIn
import Derived.TacticsInMore
import Derived.LoopNIn
import Derived.LoopIn
import Derived.DeepKeys
import Derived.Lib.ItoaNum
import Derived.Laws.BitsAllLaws
set_option linter.unusedSimpArgs false
set_option linter.unusedVariables false
set_option maxHeartbeats 8000000
namespace Go.Proofs.YtiaibpcaloigkaaGreatDoor
section
open Go.RowKit
theorem tS (x y c:Nat) (hc:c≤1) (w:World) :
  (callFunc 261 #[.int .u64 x,.int .u64 y,.int .u64 c]).run Tryz.prog w =
   .ok (.value (.tuple #[.int .u64 (((x+y+c)%18446744073709551616:Nat):Int),.int .u64 (((x+y+c) / 18446744073709551616:Nat):Int)])) w:=by
 rw[run_callFunc_extern (Tryz.func261) Kr Kr Kr (e:=add64Entry) Kr,run_add64 x y c Om Om Om Om];simp only[Result.andThen];congr 5<;>omega
def cy (a b:Nat):Nat→Nat
 | 0=>0
 | k+1=>(wd k a+wd k b+cy a b k) / 18446744073709551616
def sw (a b k:Nat):Nat:=(wd k a+wd k b+cy a b k)%18446744073709551616
theorem ae8 (a b k:Nat):cy a b k≤1:=by
 induction k with
 | zero=>exact Nat.zero_le _
 | succ k ih=>have:=yd k a;have:=yd k b;simp only[cy];omega
def u64 (n:Nat):Value:=.int .u64 ((n:Nat):Int)
def uB (a b k:Nat):List Value:=[if 0<k then .int .u64 (sw a b 0:Nat) else .int .u64 0,if 1<k then .int .u64 (sw a b 1:Nat) else .int .u64 0,if 2<k then .int .u64 (sw a b 2:Nat) else .int .u64 0,if 3<k then .int .u64 (sw a b 3:Nat) else .int .u64 0]
theorem vq (a:Nat) {k:Nat} (h:k<4):(zc a)[k]?=some (.int .u64 (wd k a:Nat)):=by
 have:k=0∨k=1∨k=2∨k=3:=by omega
 rcases this with rfl|rfl|rfl|rfl<;>rfl
def Rd (w:World) (v:Value) (xs:List Value):Prop :=
 (∀ u∈xs,u.oneCell'=true)∧((v=.slice none 0 0∧xs=[])∨∃ (a:Addr) (c:Nat),v=.slice (some a) xs.length c∧a.block<w.heap.size∧∀ j u,xs[j]?=some u→w.cell? (a.add j)=some u)
theorem add_block (a:Addr) (j:Nat):(a.add j).block=a.block:=by unfold Addr.add;split<;>rfl
theorem Rd.below {w w' : World} {v:Value} {xs:List Value} {B:Nat} (h:Rd w v xs) (hB:w.heap.size=B) (hb:Below B w w'):Rd w' v xs:=by
 subst hB;obtain⟨h1,h2|⟨a,c,h2,h3,h4⟩⟩:=h
 ·exact⟨h1,.inl h2⟩
 ·exact⟨h1,.inr ⟨a,c,h2,Nat.lt_of_lt_of_le h3 hb.size,fun j u hj=>(hb.cell (p:=a.add j) (by rw[add_block];exact h3)).trans (h4 j u hj)⟩⟩
def lv (n1 n2 k:Nat):Nat:=if k=0 then 0 else if k=1 then n1 else n1+n2
def ae6 (xs1 xs2:List Value) (k:Nat):List Value:=if k=0 then [] else if k=1 then xs1 else xs1++xs2
theorem qL {B:Nat} {w0 w w' : World} {e:TypeId} {size n:Nat} {v:Value} {xs:List Value} (hB:B≤w.heap.size) (hb:Below B w0 w) (h:w.ownsRow B e size v n xs) (hg:w.grownBy w' v.ownBlock):Below B w0 w':=by
 refine hb.grown hg hB (fun k e=>?_)
 rcases h.2 with ⟨rfl,_⟩|⟨g,cap,cur,rfl,hB,_⟩
 ·cases e
 ·cases e;exact hB
set_option maxRecDepth 100000 in
theorem sE (v1 v2:Value) (xs1 xs2:List Value) (S c:Nat) (w:World) (h1:Rd w v1 xs1) (h2:Rd w v2 xs2) (hS:Blk w S 201 [v1,v2]) (hn:0<xs1.length+xs2.length) (hm:xs1.length+xs2.length≤1099511627776) :
  Calls Tryz.prog 224 #[.slice (some ⟨S,0,none⟩) 2 c] w fun e w' =>
   ∃ v,e=.returned v∧w'.ownsRow w.heap.size 22 1 v (xs1.length+xs2.length) (xs1++xs2)∧Below w.heap.size w w':=by
 have hb1:∃ b n c,v1=.slice b n c∧n=xs1.length:=by
  obtain⟨_,⟨rfl,rfl⟩|⟨a,c,rfl,_⟩⟩:=h1
  ·exact⟨_,_,_,rfl,rfl⟩
  ·exact⟨_,_,_,rfl,rfl⟩
 have hb2:∃ b n c,v2=.slice b n c∧n=xs2.length:=by
  obtain⟨_,⟨rfl,rfl⟩|⟨a,c,rfl,_⟩⟩:=h2
  ·exact⟨_,_,_,rfl,rfl⟩
  ·exact⟨_,_,_,rfl,rfl⟩
 obtain⟨b1,n1,c1,rfl,e1⟩:=hb1;obtain⟨b2,n2,c2,rfl,e2⟩:=hb2;rw[← e1,← e2] at hn hm ⊢;have lS:=hS.lt;have cS0:=hS.cell_at (i:=0) rfl;have cS1:=hS.cell_at (i:=1) rfl;have H1:=Lib.hid h1;have H2:=Lib.hid h2;have E1:=Lib.hid e1;have E2:=Lib.hid e2;clear h1 h2 e1 e2
 go_enter Tryz.func224,Tryz.ntmps224
 go_wp2
 go_loopw [3,11] (fun t3 t11 wr=>∃ k:Nat,k≤2∧t11=.int .i64 k∧t3=.int .i64 (lv n1 n2 k:Nat)∧wr=w) (fun _ i _=>2 - (intOf i).toNat)
 case atStart=>exact⟨0,by omega,rfl,rfl,rfl⟩
 case round =>
  obtain⟨k,hk,rfl,rfl,rfl⟩:=hrel;have hk3:k=0∨k=1∨k=2:=by omega
  rcases hk3 with rfl|rfl|rfl
  ·have ht0:lv n1 n2 0=0:=rfl;rw[ht0];go_wp2
   go_roundw
   case rel=>exact⟨1,by omega,rfl,by simp[lv],trivial⟩
   case measure=>simp[intOf]
  ·have ht0:lv n1 n2 1=n1:=rfl;rw[ht0];go_wp2
   go_roundw
   case rel=>exact⟨2,by omega,rfl,by simp[lv],trivial⟩
   case measure=>simp[intOf]
  ·have ht0:lv n1 n2 2=n1+n2:=rfl;rw[ht0]
   go_wp2_with (go_at_call 262;refine (qe (n1+n2) hn hm _).mono ?_;rintro e W ⟨v,rfl,hown,hbw⟩)
   obtain⟨w,rfl⟩ : ∃ w:World,w=wr:=⟨_,rfl⟩;clear cS0 cS1 ht0
   go_loopw [6,27] (fun t6 t27 wr=>∃ (x6:Value) (k:Nat),x6=t6∧k≤2∧t27=.int .i64 k∧wr.ownsRow w.heap.size 22 1 x6 (lv n1 n2 k) (ae6 xs1 xs2 k)∧Below w.heap.size w wr) (fun _ i _=>2 - (intOf i).toNat)
   case atStart=>exact⟨_,0,rfl,by omega,rfl,hown,hbw⟩
   case round =>
    clear hown hbw;obtain⟨x6,k,rfl,hk,rfl,hown,hbw⟩:=hrel;have hinfo:(Tryz.prog.info? 22).map (fun i=>(i.zero,i.size,i.bytes))=some (some (.int .u64 0),1,8):=Kr
    obtain⟨i0,hi,hz0,hz1,hz2⟩:=info_parts hinfo;have hk3:k=0∨k=1∨k=2:=by omega
    rcases hk3 with rfl|rfl|rfl
    ·have c0:=(hS.below hbw lS).cell_at (i:=0) rfl;have hr:=H1.out.below rfl hbw;have e1:=E1.out;obtain⟨ho,⟨e,rfl⟩|⟨a,c',e,hlt,hc⟩⟩:=hr
     ·obtain⟨rfl,q1,q2⟩ : b1=none∧n1=0∧c1=0:=by cases e;exact⟨rfl,rfl,rfl⟩
      have hx0:Value.slice none n1 c1=.slice none 0 0:=by rw[q1,q2]
      have Q:=Lib.hid q1;clear e1 ho e q1 q2;have HX:=Lib.hid hx0;clear hx0
      go_wp2_with (at_builtin;refine wpList_append_own_none rfl _ _ 201 rfl w.heap.size 22 i0 1 Tryz.underlying201 hi x6 _ _ rfl hown HX.out ?_)
      go_roundw
      case rel=>exact⟨_,1,rfl,by omega,rfl,by simpa [lv,ae6,Q.out] using hown,hbw⟩
      case measure=>simp[intOf]
     ·cases e;clear e1
      go_wp2_with (at_builtin;refine wpList_append_own _ rfl _ _ 201 rfl w.heap.size 22 i0 (.int .u64 0) 1 8 Tryz.underlying201 hi hz0 hz1 hz2 rfl Dtt x6 _ _ rfl hown a xs1.length _ xs1 rfl Sm hc ho (by simp[lv,maxLen];omega) (by simp[lv];omega) hbw.size ?_;intro v' w1 hown' hgrow _)
      go_roundw
      case rel=>exact⟨_,1,rfl,by omega,rfl,by simpa [lv,ae6] using hown',qL hbw.size hbw hown hgrow⟩
      case measure=>simp[intOf]
    ·have c0:=(hS.below hbw lS).cell_at (i:=1) rfl;have hr:=H2.out.below rfl hbw;have e1:=E2.out;obtain⟨ho,⟨e,rfl⟩|⟨a,c',e,hlt,hc⟩⟩:=hr
     ·obtain⟨rfl,q1,q2⟩ : b2=none∧n2=0∧c2=0:=by cases e;exact⟨rfl,rfl,rfl⟩
      have hx0:Value.slice none n2 c2=.slice none 0 0:=by rw[q1,q2]
      have Q:=Lib.hid q1;clear e1 ho e q1 q2;have HX:=Lib.hid hx0;clear hx0
      go_wp2_with (at_builtin;refine wpList_append_own_none rfl _ _ 201 rfl w.heap.size 22 i0 1 Tryz.underlying201 hi x6 _ _ rfl hown HX.out ?_)
      go_roundw
      case rel=>exact⟨_,2,rfl,by omega,rfl,by simpa [lv,ae6,Q.out] using hown,hbw⟩
      case measure=>simp[intOf]
     ·cases e;clear e1
      go_wp2_with (at_builtin;refine wpList_append_own _ rfl _ _ 201 rfl w.heap.size 22 i0 (.int .u64 0) 1 8 Tryz.underlying201 hi hz0 hz1 hz2 rfl Dtt x6 _ _ rfl hown a xs2.length _ xs2 rfl Sm hc ho (by simp[lv,maxLen];omega) (by simp[lv];omega) hbw.size ?_;intro v' w1 hown' hgrow _)
      go_roundw
      case rel=>exact⟨_,2,rfl,by omega,rfl,by simpa [lv,ae6] using hown',qL hbw.size hbw hown hgrow⟩
      case measure=>simp[intOf]
    ·go_wp2
     go_ret
     refine⟨_,rfl,?_,hbw⟩;simpa [lv,ae6] using hown
end
section
open Go.RowKit Go.Shelf
attribute [local go_sem] Oper.semAt_some
def upto {α:Type} (f:Nat→α) (k:Nat):List α:=(List.range k).map f
theorem fR {α:Type} (f:Nat→α) (k:Nat):upto f (k+1)=upto f k++[f k]:=by simp[upto,List.range_succ]
theorem kS {α:Type} (f:Nat→α) (k:Nat):(upto f k).length=k:=by simp[upto]
abbrev U64:Type:={ n:Nat // n<18446744073709551616 }
instance:Inhabited U64:=⟨⟨0,by omega⟩⟩
def uU (b c:Nat) (A B:World):Prop:=B.heap[b]?=A.heap[b]?∧B.heap[c]?=A.heap[c]?
theorem uU.refl (b c:Nat) (A:World):uU b c A A:=⟨rfl,rfl⟩
theorem uU.trans {b c:Nat} {A B C:World} (h:uU b c A B) (k:uU b c B C):uU b c A C:=⟨k.1.trans h.1,k.2.trans h.2⟩
theorem uU.cell1 {b c:Nat} {A B:World} (h:uU b c A B) (j:Nat):B.cell? ⟨b,j,none⟩=A.cell? ⟨b,j,none⟩:=World.cell?_of_block (a:=⟨b,j,none⟩) h.1
theorem uU.cell2 {b c:Nat} {A B:World} (h:uU b c A B) (j:Nat):B.cell? ⟨c,j,none⟩=A.cell? ⟨c,j,none⟩:=World.cell?_of_block (a:=⟨c,j,none⟩) h.2
theorem uU.put {b c:Nat} {w:World} (hb:b<w.heap.size) (hc:c<w.heap.size) (W:World) (l:Nat) (o o' : Obj) (hl:w.heap.size≤l) (_:W.heap[l]?=some o) (_:o.isCells=false) (_:o.isWalk=false):uU b c W (W.putObj l o') :=
 ⟨World.putObj_heap_other Om,World.putObj_heap_other Om⟩
def sT (zs:List U64) (j:Nat):Nat × U64:=(zs.length - 1 - j,zs[zs.length - 1 - j]?.getD default)
set_option maxRecDepth 100000 in
theorem mS (F:Fence) (n:Nat) (hf:F.fn 263) (hro:F.round=none) (hn:1≤n) (l Bs b cap:Nat) (zs:List U64) (hreach:zs.length≤1099511627776) (J Jx:List (Nat × U64)→World→Prop)
  (hY:∀ pre x W,J pre W→pre.length<zs.length→YieldAt F (n - 1) Tryz.prog l #[.int .i64 (x.1:Int),.int .u64 (x.2.1:Int)] W fun e W' =>
   (e=.returned (.bool true)∧J (pre++[x]) W'∧uU b Bs W W')∨(e=.returned (.bool false)∧Jx (pre++[x]) W'))
  (W:World) (hBs:W.cell? ⟨Bs,0,none⟩=some (.slice (some ⟨b,0,none⟩) zs.length cap)) (hc:∀ j,j<zs.length→W.cell? ⟨b,j,none⟩=some (.int .u64 ((zs[j]?.getD default).1:Int))) (h0:J [] W) :
  CallsIn F n Tryz.prog 263 #[.func (.yield l) #[] #[],.pointer (some ⟨Bs,0,none⟩)] W fun e W'=>(∃ v,e=.returned v) ∧
   ((∃ ys,ys=upto (sT zs) zs.length∧J ys W')∨(∃ pre,(∃ k,k≤zs.length∧pre=upto (sT zs) k)∧Jx pre W')):=by
 refine callsIn_of_wp Tryz.func263 rfl hf ?_ hro;simp only[Tryz.ntmps263,List.size_toArray,List.length_cons,List.length_nil,Nat.reduceAdd,Nat.reduceSub,Array.replicate_succ,Array.replicate_zero,List.push_toArray,List.append_toArray,List.nil_append,List.cons_append]
 gi_wp2
 gi_loopw [3] (fun i wr=>∃ k:Nat,k≤zs.length∧i=.int .i64 ((zs.length:Int) - 1 - (k:Int))∧J (upto (sT zs) k) wr∧uU b Bs W wr)
  (fun i _=>(intOf i+1).toNat)
 case atStart=>exact⟨0,Nat.zero_le _,by simp,h0,uU.refl _ _ _⟩
 case round =>
  obtain⟨k,hk,hi,hJs,hnx⟩:=hrel;have hBs':=(hnx.cell2 0).trans hBs
  by_cases hlt:k<zs.length
  ·rw[show (zs.length:Int) - 1 - (k:Int)=((zs.length - 1 - k:Nat):Int) by omega] at hi;subst hi;have hjl:zs.length - 1 - k<zs.length:=by omega
   have hcx:=(hnx.cell1 _).trans (hc _ hjl);obtain⟨fn,tmps,assign,body,hy,hR⟩:=hY _ (sT zs k) wr hJs (by rw[kS];exact hlt);have hse:=fR (sT zs) k;unfold sT at hy;dsimp only at hy;generalize hj:zs.length - 1 - k=j at *;generalize hz:zs[j]?.getD default=z at *;have hbk:sT zs k=(j,z):=by simp only[sT,hj,hz]
   have hjz:(j:Int)<(zs.length:Int):=by omega
   have hnext:(j:Int) - 1=(zs.length:Int) - 1 - ((k+1:Nat):Int):=by omega
   have HN:=Lib.hid hnext;clear hnext
   gi_wp2
   refine hR.mono ?_;rintro e W3 (⟨rfl,hJ3,hk3⟩|⟨rfl,hJx3⟩)
   ·gi_wp2
    go_roundw
    case rel=>exact⟨k+1,by omega,by rw[← HN.out],by rw[hse];exact hJ3,hnx.trans hk3⟩
    case measure=>first|(simp[intOf];done)|(simp[intOf];omega)
   ·gi_wp2
    refine bodyPost_ret (results_none rfl _ _ _) rfl ?_;exact⟨⟨_,rfl⟩,.inr ⟨_,⟨k+1,by omega,hse.symm⟩,hJx3⟩⟩
  ·obtain rfl:k=zs.length:=by omega
   rw[show (zs.length:Int) - 1 - (zs.length:Int) = -1 by omega] at hi;subst hi
   gi_wp2
   go_end0
   exact⟨⟨_,rfl⟩,.inl ⟨_,rfl,hJs⟩⟩
theorem qy (n:Nat) (hn:1≤n) (Bs b cap:Nat) (zs:List U64) (hreach:zs.length≤1099511627776) (w:World) (hBn:Bs<w.heap.size) (hb:b<w.heap.size)
  (hBs:w.cell? ⟨Bs,0,none⟩=some (.slice (some ⟨b,0,none⟩) zs.length cap)) (hc:∀ j,j<zs.length→w.cell? ⟨b,j,none⟩=some (.int .u64 ((zs[j]?.getD default).1:Int))) :
  SeqStopsK Fence.wide n Tryz.prog 263 #[.pointer (some ⟨Bs,0,none⟩)] (fun x:Nat × U64=>#[Value.int .i64 (x.1:Int),Value.int .u64 (x.2.1:Int)]) (uU b Bs) (fun ys=>ys=upto (sT zs) zs.length)
   (fun pre=>∃ k,k≤zs.length∧pre=upto (sT zs) k) zs.length w:=fun l J Jx W hW _ _ hY h0 =>
 mS Fence.wide n trivial rfl hn l Bs b cap zs hreach J Jx hY W ((hW.cell (p:=⟨Bs,0,none⟩) hBn).trans hBs) (fun j hj=>(hW.cell (p:=⟨b,j,none⟩) hb).trans (hc j hj)) h0
theorem rM (a:Option Addr) (len cap:Nat) (w:World) :
  Calls Tryz.prog 225 #[.slice a len cap] w fun e w'=>e=.returned (.func (.func 263) #[] #[.pointer (some ⟨w.heap.size,0,none⟩)])∧w'=w.alloc (.cells #[.slice a len cap] 201):=by
 go_enter Tryz.func225,Tryz.ntmps225
 go_wp2
 go_ret
 exact⟨rfl,rfl⟩
theorem mZ {W W' : World} (h:Ext W W'):KeepsOthers W W':=⟨h.size,fun k o hk _=>(h.block k (Array.getElem?_eq_some_iff.1 hk).1).trans hk⟩
theorem Blk.own {A B:World} {row:Option Nat} {g:Nat} {t:TypeId} {cs:List Value} (h:Blk A g t cs) (hg:A.grownBy B row) (hr:∀ r,row=some r→∃ o:Obj,A.heap[r]?=some o∧o.isCells=false):Blk B g t cs:=by
 refine h.grown hg (fun e=>?_);obtain⟨o,h1,h2⟩:=hr g e.symm;unfold Blk at h;rw[h] at h1;cases h1;cases h2
end
section
open Go.RowKit
def bw (x y c:Nat):Nat:=if x<y+c then 1 else 0
theorem bB (x y b:Nat) (hb:b≤1) (w:World) :
  (callFunc 139 #[.int .u64 x,.int .u64 y,.int .u64 b]).run Tryz.prog w =
   .ok (.value (.tuple #[.int .u64 (((x+18446744073709551616 - y - b)%18446744073709551616:Nat):Int),.int .u64 ((bw x y b:Nat):Int)])) w:=by
 rw[run_callFunc_extern (Tryz.func139) Kr Kr Kr (e:=sub64Entry) Kr,run_sub64 x y b hb];rfl
def br (a b:Nat):Nat→Nat
 | 0=>0
 | k+1=>bw (wd k a) (wd k b) (br a b k)
def sb (a b k:Nat):Nat:=(wd k a+18446744073709551616 - wd k b - br a b k)%18446744073709551616
theorem ag2 (a b k:Nat):br a b k≤1:=by
 cases k with
 | zero=>exact Nat.zero_le _
 | succ k=>simp only[br,bw];split<;>omega
theorem rf (x y c:Nat) (hx:x<18446744073709551616) (hy:y<18446744073709551616) (hc:c≤1) :
  (x+18446744073709551616 - y - c)%18446744073709551616+y+c=x+18446744073709551616*(if x<y+c then 1 else 0)∧(x+18446744073709551616 - y - c)%18446744073709551616<18446744073709551616∧(if x<y+c then 1 else 0:Nat)≤1:=by
 split<;>omega
theorem aeC (S A B M c:Nat) (hS:S<M) (hA:A<M) (hB:B<M) (hc:c≤1) (h:S+B=A+M*c):S=(A+M - B)%M∧c=if A<B then 1 else 0:=by
 have:c=0∨c=1:=by omega
 rcases this with rfl|rfl
 ·rw[show A+M - B=S+M by omega,Nat.add_mod_right,Nat.mod_eq_of_lt hS,if_neg Om];exact⟨rfl,rfl⟩
 ·rw[show A+M - B=S by omega,Nat.mod_eq_of_lt hS,if_pos Om];exact⟨rfl,rfl⟩
theorem bf (a b:Nat) (ha:a<ze) (hb:b<ze) (s0 s1 s2 s3 c1 c2 c3 c4:Nat)
  (e0:s0=(wd 0 a+18446744073709551616 - wd 0 b - 0)%18446744073709551616) (f0:c1=if wd 0 a<wd 0 b+0 then 1 else 0)
  (e1:s1=(wd 1 a+18446744073709551616 - wd 1 b - c1)%18446744073709551616) (f1:c2=if wd 1 a<wd 1 b+c1 then 1 else 0)
  (e2:s2=(wd 2 a+18446744073709551616 - wd 2 b - c2)%18446744073709551616) (f2:c3=if wd 2 a<wd 2 b+c2 then 1 else 0)
  (e3:s3=(wd 3 a+18446744073709551616 - wd 3 b - c3)%18446744073709551616) (f3:c4=if wd 3 a<wd 3 b+c3 then 1 else 0) :
  tn s0 s1 s2 s3=(a+ze - b)%ze∧c4=bw a b 0:=by
 have h1:=vN ha;have h2:=vN hb;have:=yd 0 a;have:=yd 1 a;have:=yd 2 a;have:=yd 3 a;have:=yd 0 b;have:=yd 1 b;have:=yd 2 b;have:=yd 3 b;generalize wd 0 a=a0 at *;generalize wd 1 a=a1 at *;generalize wd 2 a=a2 at *;generalize wd 3 a=a3 at *;generalize wd 0 b=b0 at *;generalize wd 1 b=b1 at *;generalize wd 2 b=b2 at *;generalize wd 3 b=b3 at *;obtain⟨g0,l0,m0⟩:=rf a0 b0 0 Om Om Om;rw[← e0,← f0] at g0;rw[← e0] at l0;rw[← f0] at m0;obtain⟨g1,l1,m1⟩:=rf a1 b1 c1 Om Om Om;rw[← e1,← f1] at g1;rw[← e1] at l1;rw[← f1] at m1;obtain⟨g2,l2,m2⟩:=rf a2 b2 c2 Om Om Om;rw[← e2,← f2] at g2;rw[← e2] at l2;rw[← f2] at m2;obtain⟨g3,l3,m3⟩:=rf a3 b3 c3 Om Om Om;rw[← e3,← f3] at g3;rw[← e3] at l3;rw[← f3] at m3;have key:tn s0 s1 s2 s3+b=a+ze*c4:=by
  rw[← h1,← h2];clear e0 e1 e2 e3 f0 f1 f2 f3 h1 h2 ha hb l0 l1 l2 l3 m0 m1 m2 m3;simp only[tn,ze];omega
 have hs:=lx l0 l1 l2 l3;clear e0 e1 e2 e3 f0 f1 f2 f3 h1 h2 g0 g1 g2 g3 l0 l1 l2 l3 m0 m1 m2;simp only[bw,Nat.add_zero];exact aeC _ _ _ _ _ hs ha hb m3 key
end
section
open Go.RowKit
theorem ab8 (n:Nat) (h:n<18446744073709551616):n<ze:=by unfold ze;omega
theorem sF (n:Nat) (h:n<18446744073709551616):Value.agg #[.int .u64 (n:Int),.int .u64 0,.int .u64 0,.int .u64 0]=zk n:=by
 have:=oU h (by omega:0<18446744073709551616) (by omega:0<18446744073709551616) (by omega:0<18446744073709551616);simpa [tn] using this
def eqN (a b:Nat):Bool:=decide (a=b)
theorem aag (n:Nat) (h:n<18446744073709551616):Tryz.prog.keyLits 1 22 [.int .u64 (n:Int)]=some [.int .u64 (n:Int)]:=by
 have hw:(Lit.int .u64 (n:Int)).wf=true:=by
  simp[Lit.wf,IntKind.min,IntKind.max,IntKind.signed,IntKind.bits];omega
 simp[Program.keyLits,Tryz.underlying22,hw]
theorem pZ (a:Nat):Tryz.prog.keyLits 2 24 (zc a)=some [.int .u64 ((wd 0 a:Nat):Int),.int .u64 ((wd 1 a:Nat):Int),.int .u64 ((wd 2 a:Nat):Int),.int .u64 ((wd 3 a:Nat):Int)]:=by
 have c1:Tryz.prog.cellsOf 24=4:=Kr
 have c2:Tryz.prog.cellsOf 22=1:=Kr
 have k:=fun i=>aag (wd i a) (yd i a);have r:List.range 4=[0,1,2,3]:=rfl;unfold Program.keyLits;simp[Tryz.underlying24,c1,c2,r,k]
theorem pq {a b:Nat} (ha:a<ze) (hb:b<ze) (w:World) :
  (binOp .eql 24 (zk a) (zk b)).run Tryz.prog w=.ok (.bool (eqN a b)) w:=by
 obtain⟨r,hr,hiff⟩:=run_equalIn_deep (P:=Tryz.prog) 9998 2 24 Kr w 2 2 (zk a) (zk b)
  [.int .u64 ((wd 0 a:Nat):Int),.int .u64 ((wd 1 a:Nat):Int),.int .u64 ((wd 2 a:Nat):Int),.int .u64 ((wd 3 a:Nat):Int)]
  [.int .u64 ((wd 0 b:Nat):Int),.int .u64 ((wd 1 b:Nat):Int),.int .u64 ((wd 2 b:Nat):Int),.int .u64 ((wd 3 b:Nat):Int)]
  Kr Kr (pZ a) (pZ b)
 have e:r=eqN a b:=by
  unfold eqN;rw[Bool.eq_iff_iff,hiff];simp only[decide_eq_true_eq,List.cons.injEq,Lit.int.injEq,true_and,and_true,Int.ofNat_inj];constructor
  ·rintro ⟨h0,h1,h2,h3⟩;exact abZ ha hb h0 h1 h2 h3
  ·rintro rfl;exact⟨rfl,rfl,rfl,rfl⟩
 subst e;simp only[run_eql_struct,hr,Result.andThen]
theorem yj {a b:Nat} (ha:a<ze) (hb:b<ze) (w:World) :
  (Op.equalIn 10000 24 (zk a) (zk b)).run Tryz.prog w=.ok (eqN a b) w:=by
 have:=pq ha hb w;rw[run_eql_struct] at this;cases h:(Op.equalIn 10000 24 (zk a) (zk b)).run Tryz.prog w with
 | ok r w'=>rw[h] at this;simp only[Result.andThen,Result.ok.injEq,Value.bool.injEq] at this;rw[this.1,this.2]
 | halt h' w'=>rw[h] at this;simp[Result.andThen] at this
attribute [local go_sem] yj
theorem afl {a b:Nat} (h:a≠b):eqN a b=false:=by simp[eqN,h]
def td (a b:Nat):Int:=if a=b then 0 else if a<b then -1 else 1
end
section
def zJ (a:Nat):Nat:=if a=0 then 0 else a.log2+1
theorem sP {x k:Nat} (hk:1≤k) (h1:2 ^ (k - 1)≤x) (h2:x<2 ^ k):zJ x=k:=by
 have hx:x≠0:=by have:=Nat.two_pow_pos (k - 1);omega
 unfold zJ;rw[if_neg hx];have a:=(Nat.log2_lt hx).2 h2;have b:=(Nat.le_log2 hx).2 h1;omega
theorem te {x:Nat} (hx:x≠0):1≤zJ x∧2 ^ (zJ x - 1)≤x∧x<2 ^ zJ x:=by
 unfold zJ;rw[if_neg hx];exact⟨by omega,by simpa using Nat.log2_self_le hx,Nat.lt_log2_self⟩
theorem tI (x:Nat):x<2 ^ zJ x:=by
 by_cases hx:x=0
 ·subst hx;simp[zJ]
 ·exact (te hx).2.2
theorem vd {x k:Nat} (h:x<2 ^ k):zJ x≤k:=by
 by_cases hx:x=0
 ·subst hx;simp[zJ]
 ·unfold zJ;rw[if_neg hx];have:=(Nat.log2_lt hx).2 h;omega
theorem yY {x k:Nat}:zJ x≤k↔x<2 ^ k :=
 ⟨fun h=>Nat.lt_of_lt_of_le (tI x) (Nat.pow_le_pow_right Om h),vd⟩
theorem bitLen_eq {x:Nat} (h:x<18446744073709551616):Lib.bitLen x=zJ x:=by
 by_cases hx:x=0
 ·subst hx;rfl
 ·obtain⟨h1,h2,h3⟩:=Lib.bitLenAux_bounds 64 x h hx;exact (sP h1 h2 h3).symm
theorem tx {x lo s:Nat} (hx:x≠0) (hl:lo<2 ^ s):zJ (lo+2 ^ s*x)=s+zJ x:=by
 obtain⟨h1,h2,h3⟩:=te hx;refine sP Om ?_ ?_
 ·rw[show s+zJ x - 1=s+(zJ x - 1) by omega,Nat.pow_add];have:=Nat.mul_le_mul_left (2 ^ s) h2;omega
 ·rw[Nat.pow_add];have:=Nat.mul_le_mul_left (2 ^ s) h3;rw[Nat.mul_succ] at this;omega
theorem pd {a:Nat} (ha:a<ze) {i:Nat} (hi:i<4) (hz:∀ j,i<j→j<4→wd j a=0) (hx:wd i a≠0):zJ a=64*i+zJ (wd i a):=by
 have hv:=vN ha;have l0:=yd 0 a;have l1:=yd 1 a;have l2:=yd 2 a;have:i=0∨i=1∨i=2∨i=3:=by omega
 rcases this with rfl|rfl|rfl|rfl
 ·have z1:=hz 1 Om Om;have z2:=hz 2 Om Om;have z3:=hz 3 Om Om;rw[z1,z2,z3] at hv;have e:wd 0 a=a:=by simp only[tn] at hv;omega
  rw[e];omega
 ·have z2:=hz 2 Om Om;have z3:=hz 3 Om Om;rw[z2,z3] at hv;have e:a=wd 0 a+2 ^ 64*wd 1 a:=by simp only[tn] at hv;omega
  have:=tx (s:=64) hx (show wd 0 a<2 ^ 64 by omega);rw[← e] at this;omega
 ·have z3:=hz 3 Om Om;rw[z3] at hv;have e:a=(wd 0 a+18446744073709551616*wd 1 a)+2 ^ 128*wd 2 a:=by simp only[tn] at hv;omega
  have:=tx (s:=128) hx (show wd 0 a+18446744073709551616*wd 1 a<2 ^ 128 by omega);rw[← e] at this;omega
 ·have e:a=(wd 0 a+18446744073709551616*wd 1 a+340282366920938463463374607431768211456*wd 2 a)+2 ^ 192*wd 3 a:=by simp only[tn] at hv;omega
  have:=tx (s:=192) hx (show wd 0 a+18446744073709551616*wd 1 a+340282366920938463463374607431768211456*wd 2 a<2 ^ 192 by omega);rw[← e] at this;omega
theorem mT {a:Nat} (ha:a<ze) (hz:∀ j,j<4→wd j a=0):a=0:=by
 have hv:=vN ha;rw[hz 0 Om,hz 1 Om,hz 2 Om,hz 3 Om] at hv;simp[tn] at hv;omega
def vZ (a i:Nat):Nat:=a / 2 ^ i%2
theorem rT (a i:Nat):vZ a i≤1:=by unfold vZ;omega
theorem iC {a:Nat} (ha:a<ze) (i r:Nat) (hi:i<4) (hr:r<64):wd i a / 2 ^ r%2=vZ a (64*i+r):=by
 unfold vZ;rw[Nat.pow_add,← Nat.div_div_eq_div_mul];have:i=0∨i=1∨i=2∨i=3:=by omega
 have gen:∀ n:Nat,n%18446744073709551616 / 2 ^ r%2=n / 2 ^ r%2:=by
  intro n;have e:(18446744073709551616:Nat)=2 ^ r*(2*2 ^ (63 - r)):=by
   rw[← Nat.pow_succ',← Nat.pow_add,show r+(63 - r+1)=64 by omega]
  rw[e,Nat.mod_mul_right_div_self,Nat.mod_mul_right_mod]
 rcases this with rfl|rfl|rfl|rfl<;>simp only[wd,gen]<;>simp
theorem cI {a:Nat} (ha:a<ze) {i:Nat} (hi:256≤i):vZ a i=0:=by
 unfold vZ;have:a / 2 ^ i=0:=Nat.div_eq_of_lt (Nat.lt_of_lt_of_le (show a<2 ^ 256 by unfold ze at ha;omega) (Nat.pow_le_pow_right Om hi));rw[this]
end
section
open Go.RowKit
theorem an {a k:Nat} (hx:wd k a=0) (hz:∀ j,k<j→j<4→wd j a=0) (j:Nat) (h1:k≤j) (h2:j<4):wd j a=0:=by
 rcases Nat.lt_or_eq_of_le h1 with h|h
 ·exact hz j h h2
 ·subst h;exact hx
theorem fE (a:Nat) (ha:a<ze) (w:World) :
  Calls Tryz.prog 131 #[zk a] w fun e w'=>e=.returned (.int .i64 (zJ a:Nat))∧Below w.heap.size w w':=by
 go_enter Tryz.func131,Tryz.ntmps131
 go_wp2;generalize hW:w.alloc _=W;have hg0:Blk W w.heap.size 24 (zc a):=by subst hW;exact Blk.new _ _ _
 have hb:Below w.heap.size w W:=by subst hW;exact (Ext.rfl' w).alloc' _
 clear hW
 go_loop [3] (fun i=>(i=.int .i64 (-1)∧∀ j,j<4→wd j a=0)∨∃ k:Nat,k<4∧i=.int .i64 k∧∀ j,k<j→j<4→wd j a=0) (fun i=>(intOf i+1).toNat)
 case atStart=>exact .inr ⟨3,by omega,rfl,fun j h1 h2=>by omega⟩
 case round =>
  rcases hrel with ⟨rfl,hz⟩|⟨k,hk,rfl,hz⟩
  ·have hres:=mT ha hz;subst hres;clear hz;go_wp2
   go_ret
   exact⟨by simp[zJ],hb⟩
  ·have c0:=hg0.cell_at (vq a hk)
   by_cases hx:wd k a=0
   ·have Hz:=Lib.hid hz;clear hz;go_wp2
    go_round
    case rel =>
     by_cases h0:k=0
     ·subst h0;exact .inl ⟨rfl,fun j hj=>an hx Hz.out j Om hj⟩
     ·exact .inr ⟨k - 1,by omega,by rw[show ((k - 1:Nat):Int)=(k:Int) - 1 by omega],fun j h1 h2=>an hx Hz.out j Om h2⟩
    case measure=>first|(simp[intOf];done)|(simp[intOf];omega)
   ·have hres:=pd ha hk hz hx;have Hr:=Lib.hid hres;clear hres hz;have hpos:0<wd k a:=by omega
    have hle:=ag6 k a;have hlb:=vd (k:=64) (yd k a);have hbl:=bitLen_eq (yd k a)
    go_wp2_with (go_at_call 181;refine (Tryz.bits_Len64 _ _ Om Om).mono ?_;rintro e w1 ⟨rfl,rfl⟩)
    go_ret
    refine⟨?_,hb⟩;rw[Hr.out];exact congrArg (fun z:Int=>Ending.returned (.int .i64 z)) Sm
theorem and_one (n:Nat) (h:n<18446744073709551616):bits .and .u64 (n:Int) 1=((n%2:Nat):Int):=by
 have:=u64_and_nat n 1 h Om;rw[nat_mask1] at this;exact this
theorem kb (a b c d:Nat) (ha:a<18446744073709551616) (hb:b<18446744073709551616) (hc:c<18446744073709551616) (hd:d<18446744073709551616) :
  a*b / 18446744073709551616≤18446744073709551614∧a*b%18446744073709551616<18446744073709551616 ∧
  (a*b%18446744073709551616+c) / 18446744073709551616≤1∧((a*b%18446744073709551616+c)%18446744073709551616+d) / 18446744073709551616≤1 ∧
  a*b / 18446744073709551616+(a*b%18446744073709551616+c) / 18446744073709551616+((a*b%18446744073709551616+c)%18446744073709551616+d) / 18446744073709551616≤18446744073709551615 ∧
  (a*b+c+d)%18446744073709551616=((a*b%18446744073709551616+c)%18446744073709551616+d)%18446744073709551616 ∧
  (a*b+c+d) / 18446744073709551616=a*b / 18446744073709551616+(a*b%18446744073709551616+c) / 18446744073709551616+((a*b%18446744073709551616+c)%18446744073709551616+d) / 18446744073709551616:=by
 have hm:a*b≤18446744073709551615*18446744073709551615:=Nat.mul_le_mul Om Om;generalize a*b=p at *;omega
end
section
theorem aep (n:Nat) {i:Nat} (h:i<4):wd i n=n / 2 ^ (64*i)%2 ^ 64:=by
 have:i=0∨i=1∨i=2∨i=3:=by omega
 rcases this with rfl|rfl|rfl|rfl<;>simp[wd]
theorem dt (a i:Nat) (h:i<4):a / 2 ^ (64*i)=a / 2 ^ (64*(i+1))*18446744073709551616+wd i a:=by
 rw[aep a h,show 64*(i+1)=64*i+64 by omega,Nat.pow_add,← Nat.div_div_eq_div_mul,show (2:Nat) ^ 64=18446744073709551616 by decide];generalize a / 2 ^ (64*i)=x;omega
def tD (a b k:Nat):Nat:=a / 2 ^ (64*k)%b
theorem jR (a k:Nat) {b:Nat} (hb:0<b):tD a b k<b:=Nat.mod_lt _ hb
theorem db (a b i:Nat) (h:i<4) (hb:0<b):(tD a b (i+1)*18446744073709551616+wd i a) / b=wd i (a / b)∧(tD a b (i+1)*18446744073709551616+wd i a)%b=tD a b i:=by
 have hs:=dt a i h;have hq:a / b / 2 ^ (64*i)=a / 2 ^ (64*i) / b:=by rw[Nat.div_div_eq_div_mul,Nat.div_div_eq_div_mul,Nat.mul_comm]
 have hw:=yd i a;unfold tD;rw[aep (a / b) h,hq,hs];generalize a / 2 ^ (64*(i+1))=x at *;generalize wd i a=d at *;have e:x*18446744073709551616+d=x%b*18446744073709551616+d+b*(x / b*18446744073709551616):=by
  have:=Nat.div_add_mod x b;have h2:b*(x / b*18446744073709551616)=(b*(x / b))*18446744073709551616:=by rw[Nat.mul_assoc]
  rw[h2];generalize b*(x / b)=y at *;omega
 have hlt:(x%b*18446744073709551616+d) / b<18446744073709551616:=by
  rw[Nat.div_lt_iff_lt_mul hb];have:=Nat.mod_lt x hb;generalize x%b=y at *;have:(y+1)*18446744073709551616≤b*18446744073709551616:=Nat.mul_le_mul_right _ this;rw[Nat.mul_comm b] at this;omega
 rw[e,Nat.add_mul_div_left _ _ hb,Nat.add_mul_mod_self_left];refine⟨?_,rfl⟩;rw[show (2:Nat) ^ 64=18446744073709551616 by decide,Nat.add_mul_mod_self_right,Nat.mod_eq_of_lt hlt]
theorem eR {a b:Nat} (ha:a<ze):tD a b 4=0:=by
 unfold tD;rw[Nat.div_eq_of_lt (by simpa [ze] using ha)];simp
theorem iR (a b:Nat):tD a b 0=a%b:=by simp[tD]
def qc (D k j:Nat):Nat:=if j<k then 0 else wd j D
def vg (D m:Nat):Nat:=D / 2 ^ m*2 ^ m
theorem tZ (D:Nat):vg D 0=D:=by simp[vg]
theorem eE {D m:Nat} (h:D<2 ^ m):vg D m=0:=by simp[vg,Nat.div_eq_of_lt h]
theorem jS (n:Nat) {i:Nat} (h:i<4) (t:Nat):(wd i n).testBit t=(decide (t<64) && n.testBit (64*i+t)):=by
 rw[aep n h,Nat.testBit_mod_two_pow,Nat.testBit_div_two_pow,Nat.add_comm t]
theorem rk (D m t:Nat):(vg D m).testBit t=(decide (m≤t) && D.testBit t):=by
 unfold vg;rw[Nat.mul_comm,Nat.testBit_two_pow_mul,Nat.testBit_div_two_pow]
 by_cases h:m≤t
 ·simp[h,show t - m+m=t by omega]
 ·simp[h]
theorem eU (D m:Nat):vZ D m=(D.testBit m).toNat:=by
 unfold vZ;rw[Nat.testBit_eq_decide_div_mod_eq];have:=Nat.mod_two_eq_zero_or_one (D / 2 ^ m)
 rcases this with h|h<;>simp[h]
theorem iN (D m:Nat) {j:Nat} (h:j<4) (hj:j≠m / 64):wd j (vg D (m+1))=wd j (vg D m):=by
 apply Nat.eq_of_testBit_eq;intro t;rw[jS _ h,jS _ h,rk,rk]
 by_cases ht:t<64
 ·have:decide (m+1≤64*j+t)=decide (m≤64*j+t):=by
   rw[decide_eq_decide];omega
  rw[this]
 ·simp[ht]
theorem dW (s:Nat):Nat.testBit 1 (s+1)=false:=by simp[Nat.testBit_succ]
theorem eB (D m:Nat) (h:m<256):wd (m / 64) (vg D (m+1)) ||| vZ D m*2 ^ (m%64)=wd (m / 64) (vg D m):=by
 apply Nat.eq_of_testBit_eq;intro t;rw[Nat.testBit_or,jS _ Om,jS _ Om,rk,rk,Nat.mul_comm (vZ D m),Nat.testBit_two_pow_mul,eU]
 by_cases ht:t<64
 ·by_cases h1:m%64=t
  ·have e:64*(m / 64)+t=m:=by omega
   subst h1;rw[e];cases D.testBit m<;>simp<;>omega
  ·have e1:decide (m+1≤64*(m / 64)+t)=decide (m≤64*(m / 64)+t):=by rw[decide_eq_decide];omega
   rw[e1]
   by_cases h2:m%64≤t
   ·obtain⟨s,hs⟩ : ∃ s,t - m%64=s+1:=⟨t - m%64 - 1,by omega⟩;rw[hs];cases D.testBit m<;>simp[dW]
   ·simp[h2]
 ·rcases Nat.lt_or_ge t (m%64) with h2|h2
  ·omega
  ·obtain⟨s,hs⟩ : ∃ s,t - m%64=s+1:=⟨t - m%64 - 1,by omega⟩;rw[hs];cases D.testBit m<;>simp[ht,dW]
theorem ix (a m:Nat):a / 2 ^ m=a / 2 ^ (m+1)+a / 2 ^ (m+1)+vZ a m:=by
 unfold vZ;rw[Nat.pow_succ,← Nat.div_div_eq_div_mul];omega
theorem j4 {a b:Nat} (m:Nat) (hb:0<b):(a / 2 ^ (m+1)%b+a / 2 ^ (m+1)%b+vZ a m)%b=a / 2 ^ m%b ∧
  (a / 2 ^ (m+1)%b+a / 2 ^ (m+1)%b+vZ a m) / b=vZ (a / b) m:=by
 have hs:=ix a m;have hle:=rT a m;have hq:vZ (a / b) m=a / 2 ^ m / b%2:=by
  unfold vZ;rw[Nat.div_div_eq_div_mul,Nat.div_div_eq_div_mul,Nat.mul_comm]
 rw[hq,hs];generalize a / 2 ^ (m+1)=x at *;generalize vZ a m=d at *;have e:x+x+d=x%b+x%b+d+b*(2*(x / b)):=by
  have:=Nat.div_add_mod x b;have h2:b*(2*(x / b))=2*(b*(x / b)):=by rw[Nat.mul_left_comm]
  rw[h2];generalize b*(x / b)=y at *;omega
 have hlt:(x%b+x%b+d) / b<2:=by
  rw[Nat.div_lt_iff_lt_mul hb];have:=Nat.mod_lt x hb;omega
 rw[e,Nat.add_mul_div_left _ _ hb,Nat.add_mul_mod_self_left];refine⟨rfl,?_⟩;rw[Nat.add_mul_mod_self_left,Nat.mod_eq_of_lt hlt]
def Dig (u d h l q r:Nat):Prop:=q*h+r=u∧(u*4294967296+d) / (h*4294967296+l)≤q
theorem Dig.start {u d h l:Nat} (hh:2147483648≤h) (hd:d<4294967296):Dig u d h l (u / h) (u%h):=by
 refine⟨by rw[Nat.mul_comm];exact Nat.div_add_mod u h,?_⟩;have hp:0<h*4294967296+l:=by omega
 have hhp:0<h:=by omega
 rw[Nat.div_le_iff_le_mul_add_pred hp];have h1:=Nat.div_add_mod u h;have h2:=Nat.mod_lt u hhp;generalize u / h=q at *;generalize u%h=r at *;subst h1;have:(h*4294967296+l)*q=(h*q)*4294967296+l*q:=by rw[Nat.add_mul,Nat.mul_right_comm]
 rw[this];have:(h*q+r)*4294967296+d=(h*q)*4294967296+r*4294967296+d:=by omega
 omega
theorem Dig.down {u d h l q r:Nat} (hD:Dig u d h l q r) (hu:u<h*4294967296+l) (hd:d<4294967296) (hh:2147483648≤h)
  (hc:4294967296≤q∨4294967296*r+d<q*l):1≤q∧Dig u d h l (q - 1) (r+h):=by
 obtain⟨h1,h2⟩:=hD;have hp:0<h*4294967296+l:=by omega
 have hlt:(u*4294967296+d) / (h*4294967296+l)<q:=by
  rw[Nat.div_lt_iff_lt_mul hp]
  rcases hc with hc|hc
  ·have:4294967296*(h*4294967296+l)≤q*(h*4294967296+l):=Nat.mul_le_mul_right _ hc;generalize q*(h*4294967296+l)=z at *;omega
  ·have:q*(h*4294967296+l)=(q*h)*4294967296+q*l:=by rw[Nat.mul_add,Nat.mul_assoc]
   rw[this];omega
 have hq0:=Nat.lt_of_le_of_lt (Nat.zero_le _) hlt;obtain⟨q',rfl⟩ : ∃ q',q=q' + 1:=⟨q - 1,by omega⟩;refine⟨by omega,?_,Nat.le_of_lt_succ hlt⟩;simp only[Nat.add_sub_cancel];rw[Nat.add_mul,Nat.one_mul] at h1;omega
theorem Dig.stop {u d h l q r:Nat} (hD:Dig u d h l q r) (hq:q*l≤4294967296*r+d) (hh:2147483648≤h):q=(u*4294967296+d) / (h*4294967296+l):=by
 obtain⟨h1,h2⟩:=hD;have hp:0<h*4294967296+l:=by omega
 refine Nat.le_antisymm ?_ h2;rw[Nat.le_div_iff_mul_le hp];have:q*(h*4294967296+l)=(q*h)*4294967296+q*l:=by rw[Nat.mul_add,Nat.mul_assoc]
 rw[this];omega
theorem Dig.break_ {u d h l q r:Nat} (hD:Dig u d h l q r) (hr:4294967296≤r) (hu:u<h*4294967296+l) (hl:l<4294967296) (hh:2147483648≤h):q=(u*4294967296+d) / (h*4294967296+l):=by
 refine hD.stop ?_ hh;obtain⟨h1,h2⟩:=hD;have hq:q<4294967296:=by
  rcases Nat.lt_or_ge q 4294967296 with h3|h3
  ·exact h3
  ·have:4294967296*h≤q*h:=Nat.mul_le_mul_right _ h3;omega
 have:q*l≤4294967295*4294967295:=Nat.mul_le_mul Om Om;omega
theorem Dig.le {u d h l q r:Nat} (hD:Dig u d h l q r) (hu:u<18446744073709551616) (hh:2147483648≤h):q<8589934592∧r≤u:=by
 obtain⟨h1,_⟩:=hD;refine⟨?_,by omega⟩
 rcases Nat.lt_or_ge q 8589934592 with h3|h3
 ·exact h3
 ·have:8589934592*2147483648≤q*h:=Nat.mul_le_mul h3 hh;omega
theorem abS {u d Y:Nat} (hu:u<Y) (hd:d<4294967296):(u*4294967296+d) / Y<4294967296:=by
 rw[Nat.div_lt_iff_lt_mul Om];omega
theorem iT {hi lo y s:Nat} (hs:s<64) (hy:y*2 ^ s<18446744073709551616) (hhi:hi<y) (hlo:lo<18446744073709551616) :
  hi*2 ^ s+lo / 2 ^ (64 - s)<y*2 ^ s ∧
  (hi*2 ^ s+lo / 2 ^ (64 - s))*18446744073709551616+lo*2 ^ s%18446744073709551616=(hi*18446744073709551616+lo)*2 ^ s:=by
 have hp:0<2 ^ (64 - s):=Nat.two_pow_pos _;have e:(18446744073709551616:Nat)=2 ^ s*2 ^ (64 - s):=by rw[← Nat.pow_add,show s+(64 - s)=64 by omega]
 have h1:lo / 2 ^ (64 - s)<2 ^ s:=by
  rw[Nat.div_lt_iff_lt_mul hp,← e];exact hlo
 have h2:(hi+1)*2 ^ s≤y*2 ^ s:=Nat.mul_le_mul_right _ hhi;rw[Nat.add_mul] at h2;refine⟨by omega,?_⟩;have h3:lo*2 ^ s / 18446744073709551616=lo / 2 ^ (64 - s):=by
  rw[e,Nat.mul_comm (2 ^ s) (2 ^ (64 - s)),← Nat.div_div_eq_div_mul,Nat.mul_comm lo,Nat.div_div_eq_div_mul,Nat.mul_comm (2 ^ (64 - s)),← Nat.div_div_eq_div_mul,Nat.mul_div_cancel_left _ (Nat.two_pow_pos _)]
 have h4:=Nat.div_add_mod (lo*2 ^ s) 18446744073709551616;rw[h3] at h4;rw[Nat.add_mul,Nat.add_mul,Nat.mul_right_comm];omega
theorem aaG {hi lo s:Nat} (hs:s<64) (hlo:lo<18446744073709551616):(hi*2 ^ s) ||| (lo / 2 ^ (64 - s))=hi*2 ^ s+lo / 2 ^ (64 - s):=by
 refine nat_join s _ _ (Nat.mul_mod_left _ _) ?_;rw[Nat.div_lt_iff_lt_mul (Nat.two_pow_pos _),← Nat.pow_add,show s+(64 - s)=64 by omega];exact hlo
theorem iO {u d1 d0 Y q1 r1:Nat} (hY:0<Y) (e1:q1=(u*4294967296+d1) / Y) (e2:r1=(u*4294967296+d1)%Y) :
  q1*4294967296+(r1*4294967296+d0) / Y=(u*18446744073709551616+(d1*4294967296+d0)) / Y ∧
  (r1*4294967296+d0)%Y=(u*18446744073709551616+(d1*4294967296+d0))%Y:=by
 have h1:Y*q1+r1=u*4294967296+d1:=by rw[e1,e2];exact Nat.div_add_mod _ _
 clear e1 e2;have h2:Y*(q1*4294967296)=(Y*q1)*4294967296:=by rw[Nat.mul_assoc]
 have e:u*18446744073709551616+(d1*4294967296+d0)=(r1*4294967296+d0)+Y*(q1*4294967296):=by
  rw[h2];generalize Y*q1=z at h1;omega
 rw[e,Nat.add_mul_div_left _ _ hY,Nat.add_mul_mod_self_left];exact⟨Nat.add_comm _ _,rfl⟩
theorem abw {U y p:Nat} (hp:0<p):U*p / (y*p)=U / y∧U*p%(y*p) / p=U%y:=by
 refine⟨Nat.mul_div_mul_right _ _ hp,?_⟩;rw[Nat.mul_mod_mul_right,Nat.mul_div_cancel _ hp]
theorem aaH {y:Nat} (h0:y≠0) (h:y<18446744073709551616):zJ y≤64∧1≤zJ y∧9223372036854775808≤y*2 ^ (64 - zJ y)∧y*2 ^ (64 - zJ y)<18446744073709551616:=by
 obtain⟨h1,h2,h3⟩:=te h0;have h4:zJ y≤64:=vd h;refine⟨h4,h1,?_,?_⟩
 ·have:=Nat.mul_le_mul_right (2 ^ (64 - zJ y)) h2;rw[← Nat.pow_add,show zJ y - 1+(64 - zJ y)=63 by omega] at this;exact this
 ·have:=Nat.mul_lt_mul_of_pos_right h3 (Nat.two_pow_pos (64 - zJ y));rw[← Nat.pow_add,show zJ y+(64 - zJ y)=64 by omega] at this;exact this
def WB:Nat:=18446744073709551616
def iV:List Nat→Nat
 | []=>0
 | x::l=>x+WB*iV l
theorem np:∀ (l:LN) (j v:Nat),j<l.length→iV (l.set j v)+l.getD j 0*WB ^ j=iV l+v*WB ^ j
 | [],_,_,h=>by simp at h
 | x::l,0,v,_=>by simp[iV];omega
 | x::l,j+1,v,h=>by
  have ih:=np l j v (by simpa using h);simp only[List.set_cons_succ,iV,List.getD_cons_succ,Nat.pow_succ'];have h1:WB*(iV (l.set j v)+l.getD j 0*WB ^ j)=WB*(iV l+v*WB ^ j):=by rw[ih]
  rw[Nat.mul_add,Nat.mul_add] at h1;rw[show l.getD j 0*(WB*WB ^ j)=WB*(l.getD j 0*WB ^ j) by rw[Nat.mul_left_comm],show v*(WB*WB ^ j)=WB*(v*WB ^ j) by rw[Nat.mul_left_comm]];omega
theorem fy (n:Nat):iV (List.replicate n 0)=0:=by
 induction n with
 | zero=>rfl
 | succ n ih=>simp[List.replicate_succ,iV,ih]
def qd (a:Nat):Nat→Nat
 | 0=>0
 | k+1=>qd a k+wd k a*WB ^ k
theorem nW {a:Nat} (h:a<ze):qd a 4=a:=by
 have:=vN h;simp only[qd,tn,WB] at *;omega
def uR (a b i k more:Nat) (l:LN):Prop :=
 l.length=8∧(∀ x∈l,x<18446744073709551616)∧more<18446744073709551616∧(∀ j,i+4≤j→l.getD j 0=0) ∧
 iV l+more*WB ^ (i+k)=qd a i*b+wd i a*qd b k*WB ^ i
theorem uR.step {a b i k more:Nat} {l:LN} (h:uR a b i k more l) (hi:i<4) (hk:k<4) :
  uR a b i (k+1) ((wd i a*wd k b+l.getD (i+k) 0+more) / 18446744073709551616) (l.set (i+k) ((wd i a*wd k b+l.getD (i+k) 0+more)%18446744073709551616)):=by
 obtain⟨h1,h2,h3,h4,h5⟩:=h;have hx:=yd i a;have hy:=yd k b;have hl:l.getD (i+k) 0<18446744073709551616:=by
  rw[List.getD_eq_getElem?_getD,List.getElem?_eq_getElem Om,Option.getD_some];exact h2 _ (List.getElem_mem _)
 have hm:wd i a*wd k b≤18446744073709551615*18446744073709551615:=Nat.mul_le_mul Om Om;have hdm:=Nat.div_add_mod (wd i a*wd k b+l.getD (i+k) 0+more) 18446744073709551616;refine⟨by simp[h1],fun x hx'=>?_,?_,fun j hj=>?_,?_⟩
 ·rcases List.mem_or_eq_of_mem_set hx' with h|h
  ·exact h2 x h
  ·rw[h];exact Nat.mod_lt _ Om
 ·generalize wd i a*wd k b=p at *;omega
 ·rw[List.getD_eq_getElem?_getD,List.getElem?_set_ne Om,← List.getD_eq_getElem?_getD];exact h4 j hj
 ·have hs:=np l (i+k) ((wd i a*wd k b+l.getD (i+k) 0+more)%18446744073709551616) Om;generalize (wd i a*wd k b+l.getD (i+k) 0+more) / 18446744073709551616=H at *;generalize (wd i a*wd k b+l.getD (i+k) 0+more)%18446744073709551616=L at *;generalize iV (l.set (i+k) L)=V' at *;generalize l.getD (i+k) 0=c at *;have e1:H*WB ^ (i+(k+1))=(WB*H)*WB ^ (i+k):=by
   rw[show i+(k+1)=(i+k)+1 by omega,Nat.pow_succ',← Nat.mul_assoc,Nat.mul_comm H WB]
  have e2:(18446744073709551616*H+L)*WB ^ (i+k)=(wd i a*wd k b+c+more)*WB ^ (i+k):=by rw[hdm]
  rw[Nat.add_mul,Nat.add_mul,Nat.add_mul] at e2;have e3:wd i a*qd b (k+1)*WB ^ i=wd i a*qd b k*WB ^ i+wd i a*wd k b*WB ^ (i+k):=by
   simp only[qd];rw[Nat.mul_add,Nat.add_mul];congr 1;rw[Nat.pow_add,Nat.mul_assoc,Nat.mul_assoc,Nat.mul_assoc,Nat.mul_comm (WB ^ k) (WB ^ i)]
  rw[e1,e3];have e4:WB*H=18446744073709551616*H:=rfl;rw[e4];omega
theorem uR.next {a b i more:Nat} {l:LN} (h:uR a b i 4 more l) (hb:b<ze) (hi:i<4):uR a b (i+1) 0 0 (l.set (i+4) more):=by
 obtain⟨h1,h2,h3,h4,h5⟩:=h;have hs:=np l (i+4) more Om;rw[h4 (i+4) Om] at hs;refine⟨by simp[h1],fun x hx=>?_,by omega,fun j hj=>?_,?_⟩
 ·rcases List.mem_or_eq_of_mem_set hx with h|h
  ·exact h2 x h
  ·rw[h];exact h3
 ·rw[List.getD_eq_getElem?_getD,List.getElem?_set_ne Om,← List.getD_eq_getElem?_getD];exact h4 j Om
 ·rw[nW hb] at h5;simp only[qd,Nat.zero_mul,Nat.mul_zero,Nat.add_zero] at hs ⊢;rw[Nat.add_mul,hs,h5,Nat.mul_assoc,Nat.mul_comm b,← Nat.mul_assoc]
theorem uR.start (a b:Nat):uR a b 0 0 0 (List.replicate 8 0):=by
 refine⟨rfl,fun x hx=>?_,by omega,fun j _=>?_,?_⟩
 ·rw[List.eq_of_mem_replicate hx];omega
 ·have:∀ (n j:Nat),(List.replicate n 0).getD j 0=0:=by
   intro n j;rw[List.getD_eq_getElem?_getD,List.getElem?_replicate]
   split<;>rfl
  exact this 8 j
 ·rw[fy];simp[qd]
theorem aeH {a b:Nat} {l:LN} (h:uR a b 4 0 0 l) (ha:a<ze) :
  tn (l.getD 0 0) (l.getD 1 0) (l.getD 2 0) (l.getD 3 0)=a*b%ze∧tn (l.getD 4 0) (l.getD 5 0) (l.getD 6 0) (l.getD 7 0)=a*b / ze:=by
 obtain⟨h1,h2,_,_,h5⟩:=h;rw[nW ha] at h5
 match l,h1 with
 | [x0,x1,x2,x3,x4,x5,x6,x7],_ =>
  have b0:=h2 x0 Sm;have b1:=h2 x1 Sm;have b2:=h2 x2 Sm;have b3:=h2 x3 Sm;simp only[qd,Nat.zero_mul,Nat.mul_zero,Nat.add_zero] at h5;rw[← h5];have hlo:=lx b0 b1 b2 b3;have e:iV [x0,x1,x2,x3,x4,x5,x6,x7]=tn x0 x1 x2 x3+ze*tn x4 x5 x6 x7:=by
   simp only[iV,WB,tn,ze];omega
  rw[e];show tn x0 x1 x2 x3=_∧tn x4 x5 x6 x7=_;have hp:0<ze:=by unfold ze;omega
  rw[Nat.add_mul_mod_self_left,Nat.mod_eq_of_lt hlo,Nat.add_mul_div_left _ _ hp,Nat.div_eq_of_lt hlo];exact⟨rfl,by omega⟩
end
section
open Go.RowKit
def lp (l:LN):List Value:=l.map fun n=>.int .u64 ((n:Nat):Int)
theorem aav {l:LN} {j:Nat} (h:j<l.length):(lp l)[j]?=some (.int .u64 ((l.getD j 0:Nat):Int)):=by
 unfold lp;rw[List.getElem?_map,List.getD_eq_getElem?_getD,List.getElem?_eq_getElem h];rfl
theorem aa3 (l:LN) (j v:Nat):(lp l).set j (.int .u64 ((v:Nat):Int))=lp (l.set j v):=by
 unfold lp;rw[← List.map_set]
theorem qI (a:Nat) (w:World):(Instr.index 24 (zk a) (.int .i64 0)).run Tryz.prog w=.ok (.int .u64 ((wd 0 a:Nat):Int)) w:=Kr
theorem qz (a:Nat) (w:World):(Instr.index 24 (zk a) (.int .i64 1)).run Tryz.prog w=.ok (.int .u64 ((wd 1 a:Nat):Int)) w:=Kr
theorem qF (a:Nat) (w:World):(Instr.index 24 (zk a) (.int .i64 2)).run Tryz.prog w=.ok (.int .u64 ((wd 2 a:Nat):Int)) w:=Kr
theorem qH (a:Nat) (w:World):(Instr.index 24 (zk a) (.int .i64 3)).run Tryz.prog w=.ok (.int .u64 ((wd 3 a:Nat):Int)) w:=Kr
theorem nj (a:Nat) {i:Nat} (h:i<4) (w:World):(Instr.index 24 (zk a) (.int .i64 (i:Int))).run Tryz.prog w=.ok (.int .u64 ((wd i a:Nat):Int)) w:=by
 have:i=0∨i=1∨i=2∨i=3:=by omega
 rcases this with rfl|rfl|rfl|rfl
 ·exact qI a w
 ·exact qz a w
 ·exact qF a w
 ·exact qH a w
theorem run_arrayAt (g o c:Nat) (w:World):(Instr.arrayAt 24 (.slice (some ⟨g,o,none⟩) 4 c)).run Tryz.prog w=.ok (.pointer (some ⟨g,o,none⟩)) w:=by
 simp[Instr.arrayAt,go_sem,Tryz.underlying24]
end
section
namespace Sx
def uz (q:Nat) (l:LN):Bool:=decide (1<q) && l.all (fun x=>decide (x<q))
theorem vW {q:Nat} {l:LN} (h:uz q l=true):1<q∧∀ x∈l,x<q:=by
 unfold uz at h;simpa using h
def ye:List Nat→Nat→Nat
 | [],_=>0
 | c::r,x=>c+x*ye r x
theorem fg (p:LN) (c x:Nat):ye (p++[c]) x=ye p x+c*x ^ p.length:=by
 induction p with
 | nil=>simp[ye]
 | cons a r ih =>
  simp only[List.cons_append,ye,ih,List.length_cons,Nat.pow_succ,Nat.mul_add];rw[Nat.add_assoc,Nat.mul_left_comm x c,Nat.mul_comm x (x ^ r.length)]
def i5 (q x:Nat):List Nat→Nat
 | []=>0
 | c::r=>(i5 q x r*x%q+c)%q
theorem aE (q x:Nat) (p:LN):i5 q x p=ye p x%q:=by
 induction p with
 | nil=>simp[i5,ye]
 | cons c r ih =>
  simp only[i5,ye,ih];rw[Nat.mod_mul_mod,Nat.mod_add_mod,Nat.add_comm,Nat.mul_comm]
def ofZ (q:Nat) (n:Int):Nat:=if q<2 then 0 else (n%(q:Int)).toNat
theorem ci (q m:Nat) (h:0<q):ofZ q (m:Int)=m%q:=by
 unfold ofZ;split
 ·have:q=1:=by omega
  subst this;rw[Nat.mod_one]
 ·rw[← Int.natCast_emod,Int.toNat_natCast]
end Sx
end
end Go.Proofs.YtiaibpcaloigkaaGreatDoor
