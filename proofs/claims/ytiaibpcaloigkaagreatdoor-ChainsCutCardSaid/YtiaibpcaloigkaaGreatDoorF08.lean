/- Part 8 of the proof. -/
import Derived.Test.YtiaibpcaloigkaaGreatDoorF01
import Derived.Test.YtiaibpcaloigkaaGreatDoorF02
import Derived.Test.YtiaibpcaloigkaaGreatDoorProg
import Derived.StillTailTactics
import Derived.BigQuiet
import Derived.Deep.QuietTactic
import Derived.Deep.RegionHeld3
import Derived.Deep.LoopGhost
import Derived.Shelf.Spec.BitsCarry
import Derived.Handy
import Derived.OwnWalk
import Derived.Laws.AppendOwnNone
import Derived.RangeFuncNested
import Derived.RangeFuncBound
import Derived.RangeFuncCalls
import Derived.RangeFuncBox
import Derived.RangeFuncLeaves
import Derived.RangeFuncFrom
import Derived.Shelf.Abstract
import Derived.Shelf.RegionOpen
import Derived.OwnWalkIn
import Derived.TacticsInMore
import Derived.LoopNIn
import Derived.LoopIn
import Derived.DeepKeys
import Derived.Laws.BitsAllLaws
set_option linter.unusedSimpArgs false
set_option linter.unusedVariables false
set_option maxHeartbeats 8000000
namespace Go.Proofs.YtiaibpcaloigkaaGreatDoor
section
open Go.RowKit
theorem tL (x y c:Nat) (hc:c≤1) (w:World) :
  (callFunc 261 #[.int .u64 x,.int .u64 y,.int .u64 c]).run Tryz.prog w =
   .ok (.value (.tuple #[.int .u64 (((x+y+c)%18446744073709551616:Nat):Int),.int .u64 (((x+y+c) / 18446744073709551616:Nat):Int)])) w:=by
 rw[run_callFunc_extern (Tryz.func261) Kr Kr Kr (e:=add64Entry) Kr,run_add64 x y c Om Om Om Om];simp only[Result.andThen];congr 5<;>omega
def cy (a b:Nat):Nat→Nat
 | 0=>0
 | k+1=>(wd k a+wd k b+cy a b k) / 18446744073709551616
def sw (a b k:Nat):Nat:=(wd k a+wd k b+cy a b k)%18446744073709551616
theorem agE (a b k:Nat):cy a b k≤1:=by
 induction k with
 | zero=>exact Nat.zero_le _
 | succ k ih=>have:=ya k a;have:=ya k b;simp only[cy];omega
def u64 (n:Nat):Value:=.int .u64 ((n:Nat):Int)
def uI (a b k:Nat):List Value:=[if 0<k then .int .u64 (sw a b 0:Nat) else .int .u64 0,if 1<k then .int .u64 (sw a b 1:Nat) else .int .u64 0,if 2<k then .int .u64 (sw a b 2:Nat) else .int .u64 0,if 3<k then .int .u64 (sw a b 3:Nat) else .int .u64 0]
theorem vo (a:Nat) {k:Nat} (h:k<4):(zc a)[k]?=some (.int .u64 (wd k a:Nat)):=by
 have:k=0∨k=1∨k=2∨k=3:=by omega
 rcases this with rfl|rfl|rfl|rfl<;>rfl
def Rd (w:World) (v:Value) (xs:LV):Prop :=
 (∀ u∈xs,u.oneCell'=true)∧((v=.slice none 0 0∧xs=[])∨∃ (a:Addr) (c:Nat),v=.slice (some a) xs.length c∧a.block<w.heap.size∧∀ j u,xs[j]?=some u→w.cell? (a.add j)=some u)
theorem add_block (a:Addr) (j:Nat):(a.add j).block=a.block:=by unfold Addr.add;split<;>rfl
theorem Rd.below {w w' : World} {v:Value} {xs:LV} {B:Nat} (h:Rd w v xs) (hB:w.heap.size=B) (hb:Below B w w'):Rd w' v xs:=by
 subst hB;obtain⟨h1,h2|⟨a,c,h2,h3,h4⟩⟩:=h
 ·exact⟨h1,.inl h2⟩
 ·exact⟨h1,.inr ⟨a,c,h2,Nat.lt_of_lt_of_le h3 hb.size,fun j u hj=>(hb.cell (p:=a.add j) (by rw[add_block];exact h3)).trans (h4 j u hj)⟩⟩
def lv (n1 n2 k:Nat):Nat:=if k=0 then 0 else if k=1 then n1 else n1+n2
def ae8 (xs1 xs2:LV) (k:Nat):List Value:=if k=0 then [] else if k=1 then xs1 else xs1++xs2
theorem qK {B:Nat} {w0 w w' : World} {e:TypeId} {size n:Nat} {v:Value} {xs:LV} (hB:B≤w.heap.size) (hb:Below B w0 w) (h:w.ownsRow B e size v n xs) (hg:w.grownBy w' v.ownBlock):Below B w0 w':=by
 refine hb.grown hg hB (fun k e=>?_)
 rcases h.2 with ⟨rfl,_⟩|⟨g,cap,cur,rfl,hB,_⟩
 ·cases e
 ·cases e;exact hB
set_option maxRecDepth 100000 in
theorem si (v1 v2:Value) (xs1 xs2:LV) (S c:Nat) (w:World) (h1:Rd w v1 xs1) (h2:Rd w v2 xs2) (hS:Blk w S 201 [v1,v2]) (hn:0<xs1.length+xs2.length) (hm:xs1.length+xs2.length≤1099511627776) :
  Calls Tryz.prog 224 #[.slice (some ⟨S,0,none⟩) 2 c] w fun e w' =>
   ∃ v,e=.returned v∧w'.ownsRow w.heap.size 22 1 v (xs1.length+xs2.length) (xs1++xs2)∧Below w.heap.size w w':=by
 have hb1:∃ b n c,v1=.slice b n c∧n=xs1.length:=by
  obtain⟨_,⟨rfl,rfl⟩|⟨a,c,rfl,_⟩⟩:=h1
  ·exact⟨_,_,_,rfl,rfl⟩
  ·exact⟨_,_,_,rfl,rfl⟩
 have hb2:∃ b n c,v2=.slice b n c∧n=xs2.length:=by
  obtain⟨_,⟨rfl,rfl⟩|⟨a,c,rfl,_⟩⟩:=h2
  ·exact⟨_,_,_,rfl,rfl⟩
  ·exact⟨_,_,_,rfl,rfl⟩
 obtain⟨b1,n1,c1,rfl,e1⟩:=hb1;obtain⟨b2,n2,c2,rfl,e2⟩:=hb2;rw[← e1,← e2] at hn hm ⊢;have lS:=hS.lt;have cS0:=hS.cell_at (i:=0) rfl;have cS1:=hS.cell_at (i:=1) rfl;have H1:=Lib.hid h1;have H2:=Lib.hid h2;have E1:=Lib.hid e1;have E2:=Lib.hid e2;clear h1 h2 e1 e2
 go_enter Tryz.func224,Tryz.ntmps224
 go_wp2
 go_loopw [3,11] (fun t3 t11 wr=>∃ k:Nat,k≤2∧t11=.int .i64 k∧t3=.int .i64 (lv n1 n2 k:Nat)∧wr=w) (fun _ i _=>2 - (intOf i).toNat)
 case atStart=>exact⟨0,by omega,rfl,rfl,rfl⟩
 case round =>
  obtain⟨k,hk,rfl,rfl,rfl⟩:=hrel;have hk3:k=0∨k=1∨k=2:=by omega
  rcases hk3 with rfl|rfl|rfl
  ·have ht0:lv n1 n2 0=0:=rfl;rw[ht0];go_wp2
   go_roundw
   case rel=>exact⟨1,by omega,rfl,by simp[lv],trivial⟩
   case measure=>simp[intOf]
  ·have ht0:lv n1 n2 1=n1:=rfl;rw[ht0];go_wp2
   go_roundw
   case rel=>exact⟨2,by omega,rfl,by simp[lv],trivial⟩
   case measure=>simp[intOf]
  ·have ht0:lv n1 n2 2=n1+n2:=rfl;rw[ht0]
   go_wp2_with (go_at_call 262;refine (qf (n1+n2) hn hm _).mono ?_;rintro e W ⟨v,rfl,hown,hbw⟩)
   obtain⟨w,rfl⟩ : ∃ w:World,w=wr:=⟨_,rfl⟩;clear cS0 cS1 ht0
   go_loopw [6,27] (fun t6 t27 wr=>∃ (x6:Value) (k:Nat),x6=t6∧k≤2∧t27=.int .i64 k∧wr.ownsRow w.heap.size 22 1 x6 (lv n1 n2 k) (ae8 xs1 xs2 k)∧Below w.heap.size w wr) (fun _ i _=>2 - (intOf i).toNat)
   case atStart=>exact⟨_,0,rfl,by omega,rfl,hown,hbw⟩
   case round =>
    clear hown hbw;obtain⟨x6,k,rfl,hk,rfl,hown,hbw⟩:=hrel;have hinfo:(Tryz.prog.info? 22).map (fun i=>(i.zero,i.size,i.bytes))=some (some (.int .u64 0),1,8):=Kr
    obtain⟨i0,hi,hz0,hz1,hz2⟩:=info_parts hinfo;have hk3:k=0∨k=1∨k=2:=by omega
    rcases hk3 with rfl|rfl|rfl
    ·have c0:=(hS.below hbw lS).cell_at (i:=0) rfl;have hr:=H1.out.below rfl hbw;have e1:=E1.out;obtain⟨ho,⟨e,rfl⟩|⟨a,c',e,hlt,hc⟩⟩:=hr
     ·obtain⟨rfl,q1,q2⟩ : b1=none∧n1=0∧c1=0:=by cases e;exact⟨rfl,rfl,rfl⟩
      have hx0:Value.slice none n1 c1=.slice none 0 0:=by rw[q1,q2]
      have Q:=Lib.hid q1;clear e1 ho e q1 q2;have HX:=Lib.hid hx0;clear hx0
      go_wp2_with (at_builtin;refine wpList_append_own_none rfl _ _ 201 rfl w.heap.size 22 i0 1 Tryz.underlying201 hi x6 _ _ rfl hown HX.out ?_)
      go_roundw
      case rel=>exact⟨_,1,rfl,by omega,rfl,by simpa [lv,ae8,Q.out] using hown,hbw⟩
      case measure=>simp[intOf]
     ·cases e;clear e1
      go_wp2_with (at_builtin;refine wpList_append_own _ rfl _ _ 201 rfl w.heap.size 22 i0 (.int .u64 0) 1 8 Tryz.underlying201 hi hz0 hz1 hz2 rfl Dtt x6 _ _ rfl hown a xs1.length _ xs1 rfl Sm hc ho (by simp[lv,maxLen];omega) (by simp[lv];omega) hbw.size ?_;intro v' w1 hown' hgrow _)
      go_roundw
      case rel=>exact⟨_,1,rfl,by omega,rfl,by simpa [lv,ae8] using hown',qK hbw.size hbw hown hgrow⟩
      case measure=>simp[intOf]
    ·have c0:=(hS.below hbw lS).cell_at (i:=1) rfl;have hr:=H2.out.below rfl hbw;have e1:=E2.out;obtain⟨ho,⟨e,rfl⟩|⟨a,c',e,hlt,hc⟩⟩:=hr
     ·obtain⟨rfl,q1,q2⟩ : b2=none∧n2=0∧c2=0:=by cases e;exact⟨rfl,rfl,rfl⟩
      have hx0:Value.slice none n2 c2=.slice none 0 0:=by rw[q1,q2]
      have Q:=Lib.hid q1;clear e1 ho e q1 q2;have HX:=Lib.hid hx0;clear hx0
      go_wp2_with (at_builtin;refine wpList_append_own_none rfl _ _ 201 rfl w.heap.size 22 i0 1 Tryz.underlying201 hi x6 _ _ rfl hown HX.out ?_)
      go_roundw
      case rel=>exact⟨_,2,rfl,by omega,rfl,by simpa [lv,ae8,Q.out] using hown,hbw⟩
      case measure=>simp[intOf]
     ·cases e;clear e1
      go_wp2_with (at_builtin;refine wpList_append_own _ rfl _ _ 201 rfl w.heap.size 22 i0 (.int .u64 0) 1 8 Tryz.underlying201 hi hz0 hz1 hz2 rfl Dtt x6 _ _ rfl hown a xs2.length _ xs2 rfl Sm hc ho (by simp[lv,maxLen];omega) (by simp[lv];omega) hbw.size ?_;intro v' w1 hown' hgrow _)
      go_roundw
      case rel=>exact⟨_,2,rfl,by omega,rfl,by simpa [lv,ae8] using hown',qK hbw.size hbw hown hgrow⟩
      case measure=>simp[intOf]
    ·go_wp2
     go_ret
     refine⟨_,rfl,?_,hbw⟩;simpa [lv,ae8] using hown
end
section
open Go.RowKit Go.Shelf
attribute [local go_sem] Oper.semAt_some
def upto {α:Type} (f:Nat→α) (k:Nat):List α:=(List.range k).map f
theorem dE {α:Type} (f:Nat→α) (k:Nat):upto f (k+1)=upto f k++[f k]:=by simp[upto,List.range_succ]
theorem kl {α:Type} (f:Nat→α) (k:Nat):(upto f k).length=k:=by simp[upto]
abbrev U64:Type:={ n:Nat // n<18446744073709551616 }
instance:Inhabited U64:=⟨⟨0,by omega⟩⟩
def uS (b c:Nat) (A B:World):Prop:=B.heap[b]?=A.heap[b]?∧B.heap[c]?=A.heap[c]?
theorem uS.refl (b c:Nat) (A:World):uS b c A A:=⟨rfl,rfl⟩
theorem uS.trans {b c:Nat} {A B C:World} (h:uS b c A B) (k:uS b c B C):uS b c A C:=⟨k.1.trans h.1,k.2.trans h.2⟩
theorem uS.cell1 {b c:Nat} {A B:World} (h:uS b c A B) (j:Nat):B.cell? ⟨b,j,none⟩=A.cell? ⟨b,j,none⟩:=World.cell?_of_block (a:=⟨b,j,none⟩) h.1
theorem uS.cell2 {b c:Nat} {A B:World} (h:uS b c A B) (j:Nat):B.cell? ⟨c,j,none⟩=A.cell? ⟨c,j,none⟩:=World.cell?_of_block (a:=⟨c,j,none⟩) h.2
theorem uS.put {b c:Nat} {w:World} (hb:b<w.heap.size) (hc:c<w.heap.size) (W:World) (l:Nat) (o o' : Obj) (hl:w.heap.size≤l) (_:W.heap[l]?=some o) (_:o.isCells=false) (_:o.isWalk=false):uS b c W (W.putObj l o') :=
 ⟨World.putObj_heap_other Om,World.putObj_heap_other Om⟩
def sP (zs:List U64) (j:Nat):Nat × U64:=(zs.length - 1 - j,zs[zs.length - 1 - j]?.getD default)
set_option maxRecDepth 100000 in
theorem mZ (F:Fence) (n:Nat) (hf:F.fn 263) (hro:F.round=none) (hn:1≤n) (l Bs b cap:Nat) (zs:List U64) (hreach:zs.length≤1099511627776) (J Jx:List (Nat × U64)→World→Prop)
  (hY:∀ pre x W,J pre W→pre.length<zs.length→YieldAt F (n - 1) Tryz.prog l #[.int .i64 (x.1:Int),.int .u64 (x.2.1:Int)] W fun e W' =>
   (e=.returned (.bool true)∧J (pre++[x]) W'∧uS b Bs W W')∨(e=.returned (.bool false)∧Jx (pre++[x]) W'))
  (W:World) (hBs:W.cell? ⟨Bs,0,none⟩=some (.slice (some ⟨b,0,none⟩) zs.length cap)) (hc:∀ j,j<zs.length→W.cell? ⟨b,j,none⟩=some (.int .u64 ((zs[j]?.getD default).1:Int))) (h0:J [] W) :
  CallsIn F n Tryz.prog 263 #[.func (.yield l) #[] #[],.pointer (some ⟨Bs,0,none⟩)] W fun e W'=>(∃ v,e=.returned v) ∧
   ((∃ ys,ys=upto (sP zs) zs.length∧J ys W')∨(∃ pre,(∃ k,k≤zs.length∧pre=upto (sP zs) k)∧Jx pre W')):=by
 refine callsIn_of_wp Tryz.func263 rfl hf ?_ hro;simp only[Tryz.ntmps263,List.size_toArray,List.length_cons,List.length_nil,Nat.reduceAdd,Nat.reduceSub,Array.replicate_succ,Array.replicate_zero,List.push_toArray,List.append_toArray,List.nil_append,List.cons_append]
 gi_wp2
 gi_loopw [3] (fun i wr=>∃ k:Nat,k≤zs.length∧i=.int .i64 ((zs.length:Int) - 1 - (k:Int))∧J (upto (sP zs) k) wr∧uS b Bs W wr)
  (fun i _=>(intOf i+1).toNat)
 case atStart=>exact⟨0,Nat.zero_le _,by simp,h0,uS.refl _ _ _⟩
 case round =>
  obtain⟨k,hk,hi,hJs,hnx⟩:=hrel;have hBs':=(hnx.cell2 0).trans hBs
  by_cases hlt:k<zs.length
  ·rw[show (zs.length:Int) - 1 - (k:Int)=((zs.length - 1 - k:Nat):Int) by omega] at hi;subst hi;have hjl:zs.length - 1 - k<zs.length:=by omega
   have hcx:=(hnx.cell1 _).trans (hc _ hjl);obtain⟨fn,tmps,assign,body,hy,hR⟩:=hY _ (sP zs k) wr hJs (by rw[kl];exact hlt);have hse:=dE (sP zs) k;unfold sP at hy;dsimp only at hy;generalize hj:zs.length - 1 - k=j at *;generalize hz:zs[j]?.getD default=z at *;have hbk:sP zs k=(j,z):=by simp only[sP,hj,hz]
   have hjz:(j:Int)<(zs.length:Int):=by omega
   have hnext:(j:Int) - 1=(zs.length:Int) - 1 - ((k+1:Nat):Int):=by omega
   have HN:=Lib.hid hnext;clear hnext
   gi_wp2
   refine hR.mono ?_;rintro e W3 (⟨rfl,hJ3,hk3⟩|⟨rfl,hJx3⟩)
   ·gi_wp2
    go_roundw
    case rel=>exact⟨k+1,by omega,by rw[← HN.out],by rw[hse];exact hJ3,hnx.trans hk3⟩
    case measure=>first|(simp[intOf];done)|(simp[intOf];omega)
   ·gi_wp2
    refine bodyPost_ret (results_none rfl _ _ _) rfl ?_;exact⟨⟨_,rfl⟩,.inr ⟨_,⟨k+1,by omega,hse.symm⟩,hJx3⟩⟩
  ·obtain rfl:k=zs.length:=by omega
   rw[show (zs.length:Int) - 1 - (zs.length:Int) = -1 by omega] at hi;subst hi
   gi_wp2
   go_end0
   exact⟨⟨_,rfl⟩,.inl ⟨_,rfl,hJs⟩⟩
theorem qA (n:Nat) (hn:1≤n) (Bs b cap:Nat) (zs:List U64) (hreach:zs.length≤1099511627776) (w:World) (hBn:Bs<w.heap.size) (hb:b<w.heap.size)
  (hBs:w.cell? ⟨Bs,0,none⟩=some (.slice (some ⟨b,0,none⟩) zs.length cap)) (hc:∀ j,j<zs.length→w.cell? ⟨b,j,none⟩=some (.int .u64 ((zs[j]?.getD default).1:Int))) :
  SeqStopsK Fence.wide n Tryz.prog 263 #[.pointer (some ⟨Bs,0,none⟩)] (fun x:Nat × U64=>#[Value.int .i64 (x.1:Int),Value.int .u64 (x.2.1:Int)]) (uS b Bs) (fun ys=>ys=upto (sP zs) zs.length)
   (fun pre=>∃ k,k≤zs.length∧pre=upto (sP zs) k) zs.length w:=fun l J Jx W hW _ _ hY h0 =>
 mZ Fence.wide n trivial rfl hn l Bs b cap zs hreach J Jx hY W ((hW.cell (p:=⟨Bs,0,none⟩) hBn).trans hBs) (fun j hj=>(hW.cell (p:=⟨b,j,none⟩) hb).trans (hc j hj)) h0
theorem qe (a:Option Addr) (len cap:Nat) (w:World) :
  Calls Tryz.prog 225 #[.slice a len cap] w fun e w'=>e=.returned (.func (.func 263) #[] #[.pointer (some ⟨w.heap.size,0,none⟩)])∧w'=w.alloc (.cells #[.slice a len cap] 201):=by
 go_enter Tryz.func225,Tryz.ntmps225
 go_wp2
 go_ret
 exact⟨rfl,rfl⟩
theorem nC {W W' : World} (h:Ext W W'):KeepsOthers W W':=⟨h.size,fun k o hk _=>(h.block k (Array.getElem?_eq_some_iff.1 hk).1).trans hk⟩
theorem Blk.own {A B:World} {row:Option Nat} {g:Nat} {t:TypeId} {cs:LV} (h:Blk A g t cs) (hg:A.grownBy B row) (hr:∀ r,row=some r→∃ o:Obj,A.heap[r]?=some o∧o.isCells=false):Blk B g t cs:=by
 refine h.grown hg (fun e=>?_);obtain⟨o,h1,h2⟩:=hr g e.symm;unfold Blk at h;rw[h] at h1;cases h1;cases h2
end
section
open Go.RowKit
def bw (x y c:Nat):Nat:=if x<y+c then 1 else 0
theorem ad (x y b:Nat) (hb:b≤1) (w:World) :
  (callFunc 139 #[.int .u64 x,.int .u64 y,.int .u64 b]).run Tryz.prog w =
   .ok (.value (.tuple #[.int .u64 (((x+18446744073709551616 - y - b)%18446744073709551616:Nat):Int),.int .u64 ((bw x y b:Nat):Int)])) w:=by
 rw[run_callFunc_extern (Tryz.func139) Kr Kr Kr (e:=sub64Entry) Kr,run_sub64 x y b hb];rfl
def br (a b:Nat):Nat→Nat
 | 0=>0
 | k+1=>bw (wd k a) (wd k b) (br a b k)
def sb (a b k:Nat):Nat:=(wd k a+18446744073709551616 - wd k b - br a b k)%18446744073709551616
theorem ahC (a b k:Nat):br a b k≤1:=by
 cases k with
 | zero=>exact Nat.zero_le _
 | succ k=>simp only[br,bw];split<;>omega
theorem ra (x y c:Nat) (hx:x<18446744073709551616) (hy:y<18446744073709551616) (hc:c≤1) :
  (x+18446744073709551616 - y - c)%18446744073709551616+y+c=x+18446744073709551616*(if x<y+c then 1 else 0)∧(x+18446744073709551616 - y - c)%18446744073709551616<18446744073709551616∧(if x<y+c then 1 else 0:Nat)≤1:=by
 split<;>omega
theorem aee (S A B M c:Nat) (hS:S<M) (hA:A<M) (hB:B<M) (hc:c≤1) (h:S+B=A+M*c):S=(A+M - B)%M∧c=if A<B then 1 else 0:=by
 have:c=0∨c=1:=by omega
 rcases this with rfl|rfl
 ·rw[show A+M - B=S+M by omega,Nat.add_mod_right,Nat.mod_eq_of_lt hS,if_neg Om];exact⟨rfl,rfl⟩
 ·rw[show A+M - B=S by omega,Nat.mod_eq_of_lt hS,if_pos Om];exact⟨rfl,rfl⟩
theorem fX (a b:Nat) (ha:a<ze) (hb:b<ze) (s0 s1 s2 s3 c1 c2 c3 c4:Nat)
  (e0:s0=(wd 0 a+18446744073709551616 - wd 0 b - 0)%18446744073709551616) (f0:c1=if wd 0 a<wd 0 b+0 then 1 else 0)
  (e1:s1=(wd 1 a+18446744073709551616 - wd 1 b - c1)%18446744073709551616) (f1:c2=if wd 1 a<wd 1 b+c1 then 1 else 0)
  (e2:s2=(wd 2 a+18446744073709551616 - wd 2 b - c2)%18446744073709551616) (f2:c3=if wd 2 a<wd 2 b+c2 then 1 else 0)
  (e3:s3=(wd 3 a+18446744073709551616 - wd 3 b - c3)%18446744073709551616) (f3:c4=if wd 3 a<wd 3 b+c3 then 1 else 0) :
  tk s0 s1 s2 s3=(a+ze - b)%ze∧c4=bw a b 0:=by
 have h1:=vN ha;have h2:=vN hb;have:=ya 0 a;have:=ya 1 a;have:=ya 2 a;have:=ya 3 a;have:=ya 0 b;have:=ya 1 b;have:=ya 2 b;have:=ya 3 b;generalize wd 0 a=a0 at *;generalize wd 1 a=a1 at *;generalize wd 2 a=a2 at *;generalize wd 3 a=a3 at *;generalize wd 0 b=b0 at *;generalize wd 1 b=b1 at *;generalize wd 2 b=b2 at *;generalize wd 3 b=b3 at *;obtain⟨g0,l0,m0⟩:=ra a0 b0 0 Om Om Om;rw[← e0,← f0] at g0;rw[← e0] at l0;rw[← f0] at m0;obtain⟨g1,l1,m1⟩:=ra a1 b1 c1 Om Om Om;rw[← e1,← f1] at g1;rw[← e1] at l1;rw[← f1] at m1;obtain⟨g2,l2,m2⟩:=ra a2 b2 c2 Om Om Om;rw[← e2,← f2] at g2;rw[← e2] at l2;rw[← f2] at m2;obtain⟨g3,l3,m3⟩:=ra a3 b3 c3 Om Om Om;rw[← e3,← f3] at g3;rw[← e3] at l3;rw[← f3] at m3;have key:tk s0 s1 s2 s3+b=a+ze*c4:=by
  rw[← h1,← h2];clear e0 e1 e2 e3 f0 f1 f2 f3 h1 h2 ha hb l0 l1 l2 l3 m0 m1 m2 m3;simp only[tk,ze];omega
 have hs:=kh l0 l1 l2 l3;clear e0 e1 e2 e3 f0 f1 f2 f3 h1 h2 g0 g1 g2 g3 l0 l1 l2 l3 m0 m1 m2;simp only[bw,Nat.add_zero];exact aee _ _ _ _ _ hs ha hb m3 key
end
section
open Go.RowKit
theorem aca (n:Nat) (h:n<18446744073709551616):n<ze:=by unfold ze;omega
theorem sj (n:Nat) (h:n<18446744073709551616):Value.agg #[.int .u64 (n:Int),.int .u64 0,.int .u64 0,.int .u64 0]=zk n:=by
 have:=oM h (by omega:0<18446744073709551616) (by omega:0<18446744073709551616) (by omega:0<18446744073709551616);simpa [tk] using this
def eqN (a b:Nat):Bool:=decide (a=b)
theorem ay (n:Nat) (h:n<18446744073709551616):Tryz.prog.keyLits 1 22 [.int .u64 (n:Int)]=some [.int .u64 (n:Int)]:=by
 have hw:(Lit.int .u64 (n:Int)).wf=true:=by
  simp[Lit.wf,IntKind.min,IntKind.max,IntKind.signed,IntKind.bits];omega
 simp[Program.keyLits,Tryz.underlying22,hw]
theorem oL (a:Nat):Tryz.prog.keyLits 2 24 (zc a)=some [.int .u64 ((wd 0 a:Nat):Int),.int .u64 ((wd 1 a:Nat):Int),.int .u64 ((wd 2 a:Nat):Int),.int .u64 ((wd 3 a:Nat):Int)]:=by
 have c1:Tryz.prog.cellsOf 24=4:=Kr
 have c2:Tryz.prog.cellsOf 22=1:=Kr
 have k:=fun i=>ay (wd i a) (ya i a);have r:List.range 4=[0,1,2,3]:=rfl;unfold Program.keyLits;simp[Tryz.underlying24,c1,c2,r,k]
theorem pA {a b:Nat} (ha:a<ze) (hb:b<ze) (w:World) :
  (binOp .eql 24 (zk a) (zk b)).run Tryz.prog w=.ok (.bool (eqN a b)) w:=by
 obtain⟨r,hr,hiff⟩:=run_equalIn_deep (P:=Tryz.prog) 9998 2 24 Kr w 2 2 (zk a) (zk b)
  [.int .u64 ((wd 0 a:Nat):Int),.int .u64 ((wd 1 a:Nat):Int),.int .u64 ((wd 2 a:Nat):Int),.int .u64 ((wd 3 a:Nat):Int)]
  [.int .u64 ((wd 0 b:Nat):Int),.int .u64 ((wd 1 b:Nat):Int),.int .u64 ((wd 2 b:Nat):Int),.int .u64 ((wd 3 b:Nat):Int)]
  Kr Kr (oL a) (oL b)
 have e:r=eqN a b:=by
  unfold eqN;rw[Bool.eq_iff_iff,hiff];simp only[decide_eq_true_eq,List.cons.injEq,Lit.int.injEq,true_and,and_true,Int.ofNat_inj];constructor
  ·rintro ⟨h0,h1,h2,h3⟩;exact acp ha hb h0 h1 h2 h3
  ·rintro rfl;exact⟨rfl,rfl,rfl,rfl⟩
 subst e;simp only[run_eql_struct,hr,Result.andThen]
theorem yh {a b:Nat} (ha:a<ze) (hb:b<ze) (w:World) :
  (Op.equalIn 10000 24 (zk a) (zk b)).run Tryz.prog w=.ok (eqN a b) w:=by
 have:=pA ha hb w;rw[run_eql_struct] at this;cases h:(Op.equalIn 10000 24 (zk a) (zk b)).run Tryz.prog w with
 | ok r w'=>rw[h] at this;simp only[Result.andThen,Result.ok.injEq,Value.bool.injEq] at this;rw[this.1,this.2]
 | halt h' w'=>rw[h] at this;simp[Result.andThen] at this
attribute [local go_sem] yh
theorem afh {a b:Nat} (h:a≠b):eqN a b=false:=by simp[eqN,h]
def u5 (a b:Nat):Int:=if a=b then 0 else if a<b then -1 else 1
end
section
open Go.RowKit
theorem dR {a k:Nat} (hx:wd k a=0) (hz:∀ j,k<j→j<4→wd j a=0) (j:Nat) (h1:k≤j) (h2:j<4):wd j a=0:=by
 rcases Nat.lt_or_eq_of_le h1 with h|h
 ·exact hz j h h2
 ·subst h;exact hx
theorem iL (a:Nat) (ha:a<ze) (w:World) :
  Calls Tryz.prog 131 #[zk a] w fun e w'=>e=.returned (.int .i64 (zI a:Nat))∧Below w.heap.size w w':=by
 go_enter Tryz.func131,Tryz.ntmps131
 go_wp2;generalize hW:w.alloc _=W;have hg0:Blk W w.heap.size 24 (zc a):=by subst hW;exact Blk.new _ _ _
 have hb:Below w.heap.size w W:=by subst hW;exact (Ext.rfl' w).alloc' _
 clear hW
 go_loop [3] (fun i=>(i=.int .i64 (-1)∧∀ j,j<4→wd j a=0)∨∃ k:Nat,k<4∧i=.int .i64 k∧∀ j,k<j→j<4→wd j a=0) (fun i=>(intOf i+1).toNat)
 case atStart=>exact .inr ⟨3,by omega,rfl,fun j h1 h2=>by omega⟩
 case round =>
  rcases hrel with ⟨rfl,hz⟩|⟨k,hk,rfl,hz⟩
  ·have hres:=mV ha hz;subst hres;clear hz;go_wp2
   go_ret
   exact⟨by simp[zI],hb⟩
  ·have c0:=hg0.cell_at (vo a hk)
   by_cases hx:wd k a=0
   ·have Hz:=Lib.hid hz;clear hz;go_wp2
    go_round
    case rel =>
     by_cases h0:k=0
     ·subst h0;exact .inl ⟨rfl,fun j hj=>dR hx Hz.out j Om hj⟩
     ·exact .inr ⟨k - 1,by omega,by rw[show ((k - 1:Nat):Int)=(k:Int) - 1 by omega],fun j h1 h2=>dR hx Hz.out j Om h2⟩
    case measure=>first|(simp[intOf];done)|(simp[intOf];omega)
   ·have hres:=pe ha hk hz hx;have Hr:=Lib.hid hres;clear hres hz;have hpos:0<wd k a:=by omega
    have hle:=ahu k a;have hlb:=y5 (k:=64) (ya k a);have hbl:=bitLen_eq (ya k a)
    go_wp2_with (go_at_call 181;refine (Tryz.bits_Len64 _ _ Om Om).mono ?_;rintro e w1 ⟨rfl,rfl⟩)
    go_ret
    refine⟨?_,hb⟩;rw[Hr.out];exact congrArg (fun z:Int=>Ending.returned (.int .i64 z)) Sm
theorem and_one (n:Nat) (h:n<18446744073709551616):bits .and .u64 (n:Int) 1=((n%2:Nat):Int):=by
 have:=u64_and_nat n 1 h Om;rw[nat_mask1] at this;exact this
theorem kx (a b c d:Nat) (ha:a<18446744073709551616) (hb:b<18446744073709551616) (hc:c<18446744073709551616) (hd:d<18446744073709551616) :
  a*b / 18446744073709551616≤18446744073709551614∧a*b%18446744073709551616<18446744073709551616 ∧
  (a*b%18446744073709551616+c) / 18446744073709551616≤1∧((a*b%18446744073709551616+c)%18446744073709551616+d) / 18446744073709551616≤1 ∧
  a*b / 18446744073709551616+(a*b%18446744073709551616+c) / 18446744073709551616+((a*b%18446744073709551616+c)%18446744073709551616+d) / 18446744073709551616≤18446744073709551615 ∧
  (a*b+c+d)%18446744073709551616=((a*b%18446744073709551616+c)%18446744073709551616+d)%18446744073709551616 ∧
  (a*b+c+d) / 18446744073709551616=a*b / 18446744073709551616+(a*b%18446744073709551616+c) / 18446744073709551616+((a*b%18446744073709551616+c)%18446744073709551616+d) / 18446744073709551616:=by
 have hm:a*b≤18446744073709551615*18446744073709551615:=Nat.mul_le_mul Om Om;generalize a*b=p at *;omega
def uQ (a:Nat):Bool:=decide (a<18446744073709551616)
theorem pc (a:Nat):decide (((zI a:Nat):Int)≤64)=uQ a:=by
 unfold uQ;have:=yY (x:=a) (k:=64);rw[show (2:Nat) ^ 64=18446744073709551616 by decide] at this
 by_cases h:a<18446744073709551616<;>simp[h]<;>omega
theorem nb (a:Nat) (ha:a<ze) (w:World) :
  Calls Tryz.prog 223 #[zk a] w fun e w'=>e=.returned (.bool (uQ a))∧Below w.heap.size w w':=by
 have hs:=pc a
 go_enter Tryz.func223,Tryz.ntmps223
 go_wp2_with (go_at_call 131;refine (iL a ha _).mono ?_;rintro e w1 ⟨rfl,hb1⟩)
 go_ret
 exact⟨by simp,((Ext.rfl' w).alloc' _).trans' hb1⟩
abbrev aG:List Value:=[.int .u64 0,.int .u64 0,.int .u64 0,.int .u64 0]
theorem or_bit (r b:Nat) (hr:r<ze) (hb:b≤1) :
  bits .or .u64 ((wd 0 ((r+r)%ze):Nat):Int) (b:Int)=((wd 0 ((r+r)%ze+b):Nat):Int) ∧
  wd 1 ((r+r)%ze)=wd 1 ((r+r)%ze+b)∧wd 2 ((r+r)%ze)=wd 2 ((r+r)%ze+b)∧wd 3 ((r+r)%ze)=wd 3 ((r+r)%ze+b)∧(r+r)%ze+b<ze:=by
 have hev:∃ k,(r+r)%ze=2*k∧2*k+b<ze:=by
  refine⟨r%57896044618658097711785492504343953926634992332820282019728792003956564819968,?_,?_⟩
  ·rw[← Nat.two_mul,show ze=2*57896044618658097711785492504343953926634992332820282019728792003956564819968 by decide,Nat.mul_mod_mul_left]
  ·have:=Nat.mod_lt r (show 0<57896044618658097711785492504343953926634992332820282019728792003956564819968 by omega);have h:2*(r%57896044618658097711785492504343953926634992332820282019728792003956564819968)+b<115792089237316195423570985008687907853269984665640564039457584007913129639936:=by omega
   exact h
 obtain⟨k,hk,hlt⟩:=hev;rw[hk];have hev2:∃ j,wd 0 (2*k)=2*j∧wd 0 (2*k+b)=2*j+b:=⟨wd 0 (2*k) / 2,by simp only[wd];omega,by simp only[wd];omega⟩;obtain⟨j,hj,hj2⟩:=hev2;have hjl:=ya 0 (2*k);refine⟨?_,?_,?_,?_,hlt⟩
 ·rw[u64_or_nat _ _ (ya _ _) Om,hj,hj2];have:=Nat.two_pow_add_eq_or_of_lt (i:=1) (b:=b) Om j;rw[← this]
 all_goals (simp only[wd];omega)
def ez (r b m:Nat):Nat:=(r+r+b)%m
def au (r b m:Nat):Nat:=(r+r+b) / m
theorem acN {r b m:Nat} (hr:r<m) (hm:m<ze) (hb:b≤1) (h:r+r+b<m) :
  (r+r) / ze=0∧bw ((r+r)%ze+b) m 0=1∧ez r b m=(r+r)%ze+b∧au r b m=0:=by
 have e:(r+r)%ze=r+r:=Nat.mod_eq_of_lt Om;refine⟨Nat.div_eq_of_lt Om,?_,?_,Nat.div_eq_of_lt h⟩
 ·rw[e];simp[bw];omega
 ·rw[e];exact Nat.mod_eq_of_lt h
theorem abx {r b m:Nat} (hr:r<m) (hm:m<ze) (hb:b≤1) (h:m≤r+r+b) :
  ((r+r) / ze=1∨((r+r) / ze=0∧bw ((r+r)%ze+b) m 0=0))∧ez r b m=((r+r)%ze+b+ze - m)%ze∧au r b m=1:=by
 have hq:au r b m=1:=by
  unfold au;rw[Nat.div_eq_iff Om];omega
 have hrm:ez r b m=r+r+b - m:=by
  unfold ez;rw[Nat.mod_eq_sub_mod h,Nat.mod_eq_of_lt Om]
 rw[hrm,hq]
 by_cases hc:r+r<ze
 ·have e:(r+r)%ze=r+r:=Nat.mod_eq_of_lt hc;refine⟨.inr ⟨Nat.div_eq_of_lt hc,by rw[e];simp[bw];omega⟩,?_,rfl⟩;rw[e,show r+r+b+ze - m=(r+r+b - m)+ze by omega,Nat.add_mod_right,Nat.mod_eq_of_lt Om]
 ·have e:(r+r)%ze=r+r - ze:=by rw[Nat.mod_eq_sub_mod Om,Nat.mod_eq_of_lt Om]
  refine⟨.inl ?_,?_,rfl⟩
  ·rw[Nat.div_eq_iff (by unfold ze;omega)];omega
  ·rw[e,show r+r - ze+b+ze - m=r+r+b - m by omega,Nat.mod_eq_of_lt Om]
end
end Go.Proofs.YtiaibpcaloigkaaGreatDoor
