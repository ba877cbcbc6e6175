/- Part 8 of the proof. -/
import Derived.Test.YtiaibpcaloigkaaGreatDoorD02
import Derived.Test.YtiaibpcaloigkaaGreatDoorD01
import Derived.Test.YtiaibpcaloigkaaGreatDoorProg
import Derived.StillTailTactics
import Derived.BigQuiet
import Derived.Deep.QuietTactic
import Derived.Deep.RegionHeld3
import Derived.Deep.LoopGhost
import Derived.Shelf.Spec.BitsCarry
import Derived.Handy
import Derived.OwnWalk
import Derived.Laws.AppendOwnNone
import Derived.RangeFuncNested
import Derived.RangeFuncBound
import Derived.RangeFuncCalls
import Derived.RangeFuncBox
import Derived.RangeFuncLeaves
import Derived.RangeFuncFrom
import Derived.Shelf.Abstract
import Derived.Shelf.RegionOpen
import Derived.OwnWalkIn
import Derived.TacticsInMore
import Derived.LoopNIn
import Derived.LoopIn
import Derived.DeepKeys
import Derived.WalkKit
import Derived.LaidEql
import Derived.Stop.Asserts
import Derived.RowKitTokens
set_option linter.unusedSimpArgs false
set_option linter.unusedVariables false
set_option maxHeartbeats 8000000
namespace Go.Proofs.YtiaibpcaloigkaaGreatDoor
section
open Go.RowKit
theorem tF (x y c:Nat) (hc:c≤1) (w:World) :
  (callFunc 261 #[.int .u64 x,.int .u64 y,.int .u64 c]).run Tryz.prog w =
   .ok (.value (.tuple #[.int .u64 (((x+y+c)%18446744073709551616:Nat):Int),.int .u64 (((x+y+c) / 18446744073709551616:Nat):Int)])) w:=by
 rw[run_callFunc_extern (Tryz.func261) Kr Kr Kr (e:=add64Entry) Kr,run_add64 x y c Om Om Om Om];simp only[Result.andThen];congr 5<;>omega
def cy (a b:Nat):Nat→Nat
 | 0=>0
 | k+1=>(wd k a+wd k b+cy a b k) / 18446744073709551616
def sw (a b k:Nat):Nat:=(wd k a+wd k b+cy a b k)%18446744073709551616
theorem aeu (a b k:Nat):cy a b k≤1:=by
 induction k with
 | zero=>exact Nat.zero_le _
 | succ k ih=>have:=z8 k a;have:=z8 k b;simp only[cy];omega
def u64 (n:Nat):Value:=.int .u64 ((n:Nat):Int)
def uy (a b k:Nat):List Value:=[if 0<k then .int .u64 (sw a b 0:Nat) else .int .u64 0,if 1<k then .int .u64 (sw a b 1:Nat) else .int .u64 0,if 2<k then .int .u64 (sw a b 2:Nat) else .int .u64 0,if 3<k then .int .u64 (sw a b 3:Nat) else .int .u64 0]
theorem vc (a:Nat) {k:Nat} (h:k<4):(zc a)[k]?=some (.int .u64 (wd k a:Nat)):=by
 have:k=0∨k=1∨k=2∨k=3:=by omega
 rcases this with rfl|rfl|rfl|rfl<;>rfl
def Rd (w:World) (v:Value) (xs:LV):Prop :=
 (∀ u∈xs,u.oneCell'=true)∧((v=.slice none 0 0∧xs=[])∨∃ (a:Addr) (c:Nat),v=.slice (some a) xs.length c∧a.block<w.heap.size∧∀ j u,xs[j]?=some u→w.cell? (a.add j)=some u)
theorem add_block (a:Addr) (j:Nat):(a.add j).block=a.block:=by unfold Addr.add;split<;>rfl
theorem Rd.below {w w' : World} {v:Value} {xs:LV} {B:Nat} (h:Rd w v xs) (hB:w.heap.size=B) (hb:Below B w w'):Rd w' v xs:=by
 subst hB;obtain⟨h1,h2|⟨a,c,h2,h3,h4⟩⟩:=h
 ·exact⟨h1,.inl h2⟩
 ·exact⟨h1,.inr ⟨a,c,h2,Nat.lt_of_lt_of_le h3 hb.size,fun j u hj=>(hb.cell (p:=a.add j) (by rw[add_block];exact h3)).trans (h4 j u hj)⟩⟩
def mF (n1 n2 k:Nat):Nat:=if k=0 then 0 else if k=1 then n1 else n1+n2
def adx (xs1 xs2:LV) (k:Nat):List Value:=if k=0 then [] else if k=1 then xs1 else xs1++xs2
theorem qk {B:Nat} {w0 w w' : World} {e:TypeId} {size n:Nat} {v:Value} {xs:LV} (hB:B≤w.heap.size) (hb:Below B w0 w) (h:w.ownsRow B e size v n xs) (hg:w.grownBy w' v.ownBlock):Below B w0 w':=by
 refine hb.grown hg hB (fun k e=>?_)
 rcases h.2 with ⟨rfl,_⟩|⟨g,cap,cur,rfl,hB,_⟩
 ·cases e
 ·cases e;exact hB
set_option maxRecDepth 100000 in
theorem tM (v1 v2:Value) (xs1 xs2:LV) (S c:Nat) (w:World) (h1:Rd w v1 xs1) (h2:Rd w v2 xs2) (hS:Blk w S 201 [v1,v2]) (hn:0<xs1.length+xs2.length) (hm:xs1.length+xs2.length≤1099511627776) :
  Calls Tryz.prog 224 #[.slice (some ⟨S,0,none⟩) 2 c] w fun e w' =>
   ∃ v,e=.returned v∧w'.ownsRow w.heap.size 22 1 v (xs1.length+xs2.length) (xs1++xs2)∧Below w.heap.size w w':=by
 have hb1:∃ b n c,v1=.slice b n c∧n=xs1.length:=by
  obtain⟨_,⟨rfl,rfl⟩|⟨a,c,rfl,_⟩⟩:=h1
  ·exact⟨_,_,_,rfl,rfl⟩
  ·exact⟨_,_,_,rfl,rfl⟩
 have hb2:∃ b n c,v2=.slice b n c∧n=xs2.length:=by
  obtain⟨_,⟨rfl,rfl⟩|⟨a,c,rfl,_⟩⟩:=h2
  ·exact⟨_,_,_,rfl,rfl⟩
  ·exact⟨_,_,_,rfl,rfl⟩
 obtain⟨b1,n1,c1,rfl,e1⟩:=hb1;obtain⟨b2,n2,c2,rfl,e2⟩:=hb2;rw[← e1,← e2] at hn hm ⊢;have lS:=hS.lt;have cS0:=hS.cell_at (i:=0) rfl;have cS1:=hS.cell_at (i:=1) rfl;have H1:=Lib.hid h1;have H2:=Lib.hid h2;have E1:=Lib.hid e1;have E2:=Lib.hid e2;clear h1 h2 e1 e2
 go_enter Tryz.func224,Tryz.ntmps224
 go_wp2
 go_loopw [3,11] (fun t3 t11 wr=>∃ k:Nat,k≤2∧t11=.int .i64 k∧t3=.int .i64 (mF n1 n2 k:Nat)∧wr=w) (fun _ i _=>2 - (intOf i).toNat)
 case atStart=>exact⟨0,by omega,rfl,rfl,rfl⟩
 case round =>
  obtain⟨k,hk,rfl,rfl,rfl⟩:=hrel;have hk3:k=0∨k=1∨k=2:=by omega
  rcases hk3 with rfl|rfl|rfl
  ·have ht0:mF n1 n2 0=0:=rfl;rw[ht0];go_wp2
   go_roundw
   case rel=>exact⟨1,by omega,rfl,by simp[mF],trivial⟩
   case measure=>simp[intOf]
  ·have ht0:mF n1 n2 1=n1:=rfl;rw[ht0];go_wp2
   go_roundw
   case rel=>exact⟨2,by omega,rfl,by simp[mF],trivial⟩
   case measure=>simp[intOf]
  ·have ht0:mF n1 n2 2=n1+n2:=rfl;rw[ht0]
   go_wp2_with (go_at_call 262;refine (rl (n1+n2) hn hm _).mono ?_;rintro e W ⟨v,rfl,hown,hbw⟩)
   obtain⟨w,rfl⟩ : ∃ w:World,w=wr:=⟨_,rfl⟩;clear cS0 cS1 ht0
   go_loopw [6,27] (fun t6 t27 wr=>∃ (x6:Value) (k:Nat),x6=t6∧k≤2∧t27=.int .i64 k∧wr.ownsRow w.heap.size 22 1 x6 (mF n1 n2 k) (adx xs1 xs2 k)∧Below w.heap.size w wr) (fun _ i _=>2 - (intOf i).toNat)
   case atStart=>exact⟨_,0,rfl,by omega,rfl,hown,hbw⟩
   case round =>
    clear hown hbw;obtain⟨x6,k,rfl,hk,rfl,hown,hbw⟩:=hrel;have hinfo:(Tryz.prog.info? 22).map (fun i=>(i.zero,i.size,i.bytes))=some (some (.int .u64 0),1,8):=Kr
    obtain⟨i0,hi,hz0,hz1,hz2⟩:=info_parts hinfo;have hk3:k=0∨k=1∨k=2:=by omega
    rcases hk3 with rfl|rfl|rfl
    ·have c0:=(hS.below hbw lS).cell_at (i:=0) rfl;have hr:=H1.out.below rfl hbw;have e1:=E1.out;obtain⟨ho,⟨e,rfl⟩|⟨a,c',e,hlt,hc⟩⟩:=hr
     ·obtain⟨rfl,q1,q2⟩ : b1=none∧n1=0∧c1=0:=by cases e;exact⟨rfl,rfl,rfl⟩
      have hx0:Value.slice none n1 c1=.slice none 0 0:=by rw[q1,q2]
      have Q:=Lib.hid q1;clear e1 ho e q1 q2;have HX:=Lib.hid hx0;clear hx0
      go_wp2_with (at_builtin;refine wpList_append_own_none rfl _ _ 201 rfl w.heap.size 22 i0 1 Tryz.underlying201 hi x6 _ _ rfl hown HX.out ?_)
      go_roundw
      case rel=>exact⟨_,1,rfl,by omega,rfl,by simpa [mF,adx,Q.out] using hown,hbw⟩
      case measure=>simp[intOf]
     ·cases e;clear e1
      go_wp2_with (at_builtin;refine wpList_append_own _ rfl _ _ 201 rfl w.heap.size 22 i0 (.int .u64 0) 1 8 Tryz.underlying201 hi hz0 hz1 hz2 rfl Dt x6 _ _ rfl hown a xs1.length _ xs1 rfl Sm hc ho (by simp[mF,maxLen];omega) (by simp[mF];omega) hbw.size ?_;intro v' w1 hown' hgrow _)
      go_roundw
      case rel=>exact⟨_,1,rfl,by omega,rfl,by simpa [mF,adx] using hown',qk hbw.size hbw hown hgrow⟩
      case measure=>simp[intOf]
    ·have c0:=(hS.below hbw lS).cell_at (i:=1) rfl;have hr:=H2.out.below rfl hbw;have e1:=E2.out;obtain⟨ho,⟨e,rfl⟩|⟨a,c',e,hlt,hc⟩⟩:=hr
     ·obtain⟨rfl,q1,q2⟩ : b2=none∧n2=0∧c2=0:=by cases e;exact⟨rfl,rfl,rfl⟩
      have hx0:Value.slice none n2 c2=.slice none 0 0:=by rw[q1,q2]
      have Q:=Lib.hid q1;clear e1 ho e q1 q2;have HX:=Lib.hid hx0;clear hx0
      go_wp2_with (at_builtin;refine wpList_append_own_none rfl _ _ 201 rfl w.heap.size 22 i0 1 Tryz.underlying201 hi x6 _ _ rfl hown HX.out ?_)
      go_roundw
      case rel=>exact⟨_,2,rfl,by omega,rfl,by simpa [mF,adx,Q.out] using hown,hbw⟩
      case measure=>simp[intOf]
     ·cases e;clear e1
      go_wp2_with (at_builtin;refine wpList_append_own _ rfl _ _ 201 rfl w.heap.size 22 i0 (.int .u64 0) 1 8 Tryz.underlying201 hi hz0 hz1 hz2 rfl Dt x6 _ _ rfl hown a xs2.length _ xs2 rfl Sm hc ho (by simp[mF,maxLen];omega) (by simp[mF];omega) hbw.size ?_;intro v' w1 hown' hgrow _)
      go_roundw
      case rel=>exact⟨_,2,rfl,by omega,rfl,by simpa [mF,adx] using hown',qk hbw.size hbw hown hgrow⟩
      case measure=>simp[intOf]
    ·go_wp2
     go_ret
     refine⟨_,rfl,?_,hbw⟩;simpa [mF,adx] using hown
end
section
open Go.RowKit Go.Shelf
attribute [local go_sem] Oper.semAt_some
def upto {α:Type} (f:Nat→α) (k:Nat):List α:=(List.range k).map f
theorem dC {α:Type} (f:Nat→α) (k:Nat):upto f (k+1)=upto f k++[f k]:=by simp[upto,List.range_succ]
theorem mU {α:Type} (f:Nat→α) (k:Nat):(upto f k).length=k:=by simp[upto]
abbrev U64:Type:={ n:Nat // n<18446744073709551616 }
instance:Inhabited U64:=⟨⟨0,by omega⟩⟩
def uF (b c:Nat) (A B:World):Prop:=B.heap[b]?=A.heap[b]?∧B.heap[c]?=A.heap[c]?
theorem uF.refl (b c:Nat) (A:World):uF b c A A:=⟨rfl,rfl⟩
theorem uF.trans {b c:Nat} {A B C:World} (h:uF b c A B) (k:uF b c B C):uF b c A C:=⟨k.1.trans h.1,k.2.trans h.2⟩
theorem uF.cell1 {b c:Nat} {A B:World} (h:uF b c A B) (j:Nat):B.cell? ⟨b,j,none⟩=A.cell? ⟨b,j,none⟩:=World.cell?_of_block (a:=⟨b,j,none⟩) h.1
theorem uF.cell2 {b c:Nat} {A B:World} (h:uF b c A B) (j:Nat):B.cell? ⟨c,j,none⟩=A.cell? ⟨c,j,none⟩:=World.cell?_of_block (a:=⟨c,j,none⟩) h.2
theorem uF.put {b c:Nat} {w:World} (hb:b<w.heap.size) (hc:c<w.heap.size) (W:World) (l:Nat) (o o' : Obj) (hl:w.heap.size≤l) (_:W.heap[l]?=some o) (_:o.isCells=false) (_:o.isWalk=false):uF b c W (W.putObj l o') :=
 ⟨World.putObj_heap_other Om,World.putObj_heap_other Om⟩
def sk (zs:List U64) (j:Nat):Nat × U64:=(zs.length - 1 - j,zs[zs.length - 1 - j]?.getD default)
set_option maxRecDepth 100000 in
theorem nM (F:Fence) (n:Nat) (hf:F.fn 263) (hro:F.round=none) (hn:1≤n) (l Bs b cap:Nat) (zs:List U64) (hreach:zs.length≤1099511627776) (J Jx:List (Nat × U64)→World→Prop)
  (hY:∀ pre x W,J pre W→pre.length<zs.length→YieldAt F (n - 1) Tryz.prog l #[.int .i64 (x.1:Int),.int .u64 (x.2.1:Int)] W fun e W' =>
   (e=.returned (.bool true)∧J (pre++[x]) W'∧uF b Bs W W')∨(e=.returned (.bool false)∧Jx (pre++[x]) W'))
  (W:World) (hBs:W.cell? ⟨Bs,0,none⟩=some (.slice (some ⟨b,0,none⟩) zs.length cap)) (hc:∀ j,j<zs.length→W.cell? ⟨b,j,none⟩=some (.int .u64 ((zs[j]?.getD default).1:Int))) (h0:J [] W) :
  CallsIn F n Tryz.prog 263 #[.func (.yield l) #[] #[],.pointer (some ⟨Bs,0,none⟩)] W fun e W'=>(∃ v,e=.returned v) ∧
   ((∃ ys,ys=upto (sk zs) zs.length∧J ys W')∨(∃ pre,(∃ k,k≤zs.length∧pre=upto (sk zs) k)∧Jx pre W')):=by
 refine callsIn_of_wp Tryz.func263 rfl hf ?_ hro;simp only[Tryz.ntmps263,List.size_toArray,List.length_cons,List.length_nil,Nat.reduceAdd,Nat.reduceSub,Array.replicate_succ,Array.replicate_zero,List.push_toArray,List.append_toArray,List.nil_append,List.cons_append]
 gi_wp2
 gi_loopw [3] (fun i wr=>∃ k:Nat,k≤zs.length∧i=.int .i64 ((zs.length:Int) - 1 - (k:Int))∧J (upto (sk zs) k) wr∧uF b Bs W wr)
  (fun i _=>(intOf i+1).toNat)
 case atStart=>exact⟨0,Nat.zero_le _,by simp,h0,uF.refl _ _ _⟩
 case round =>
  obtain⟨k,hk,hi,hJs,hnx⟩:=hrel;have hBs':=(hnx.cell2 0).trans hBs
  by_cases hlt:k<zs.length
  ·rw[show (zs.length:Int) - 1 - (k:Int)=((zs.length - 1 - k:Nat):Int) by omega] at hi;subst hi;have hjl:zs.length - 1 - k<zs.length:=by omega
   have hcx:=(hnx.cell1 _).trans (hc _ hjl);obtain⟨fn,tmps,assign,body,hy,hR⟩:=hY _ (sk zs k) wr hJs (by rw[mU];exact hlt);have hse:=dC (sk zs) k;unfold sk at hy;dsimp only at hy;generalize hj:zs.length - 1 - k=j at *;generalize hz:zs[j]?.getD default=z at *;have hbk:sk zs k=(j,z):=by simp only[sk,hj,hz]
   have hjz:(j:Int)<(zs.length:Int):=by omega
   have hnext:(j:Int) - 1=(zs.length:Int) - 1 - ((k+1:Nat):Int):=by omega
   have HN:=Lib.hid hnext;clear hnext
   gi_wp2
   refine hR.mono ?_;rintro e W3 (⟨rfl,hJ3,hk3⟩|⟨rfl,hJx3⟩)
   ·gi_wp2
    go_roundw
    case rel=>exact⟨k+1,by omega,by rw[← HN.out],by rw[hse];exact hJ3,hnx.trans hk3⟩
    case measure=>first|(simp[intOf];done)|(simp[intOf];omega)
   ·gi_wp2
    refine bodyPost_ret (results_none rfl _ _ _) rfl ?_;exact⟨⟨_,rfl⟩,.inr ⟨_,⟨k+1,by omega,hse.symm⟩,hJx3⟩⟩
  ·obtain rfl:k=zs.length:=by omega
   rw[show (zs.length:Int) - 1 - (zs.length:Int) = -1 by omega] at hi;subst hi
   gi_wp2
   go_end0
   exact⟨⟨_,rfl⟩,.inl ⟨_,rfl,hJs⟩⟩
theorem qb (n:Nat) (hn:1≤n) (Bs b cap:Nat) (zs:List U64) (hreach:zs.length≤1099511627776) (w:World) (hBn:Bs<w.heap.size) (hb:b<w.heap.size)
  (hBs:w.cell? ⟨Bs,0,none⟩=some (.slice (some ⟨b,0,none⟩) zs.length cap)) (hc:∀ j,j<zs.length→w.cell? ⟨b,j,none⟩=some (.int .u64 ((zs[j]?.getD default).1:Int))) :
  SeqStopsK Fence.wide n Tryz.prog 263 #[.pointer (some ⟨Bs,0,none⟩)] (fun x:Nat × U64=>#[Value.int .i64 (x.1:Int),Value.int .u64 (x.2.1:Int)]) (uF b Bs) (fun ys=>ys=upto (sk zs) zs.length)
   (fun pre=>∃ k,k≤zs.length∧pre=upto (sk zs) k) zs.length w:=fun l J Jx W hW _ _ hY h0 =>
 nM Fence.wide n trivial rfl hn l Bs b cap zs hreach J Jx hY W ((hW.cell (p:=⟨Bs,0,none⟩) hBn).trans hBs) (fun j hj=>(hW.cell (p:=⟨b,j,none⟩) hb).trans (hc j hj)) h0
theorem rL (a:Option Addr) (len cap:Nat) (w:World) :
  Calls Tryz.prog 225 #[.slice a len cap] w fun e w'=>e=.returned (.func (.func 263) #[] #[.pointer (some ⟨w.heap.size,0,none⟩)])∧w'=w.alloc (.cells #[.slice a len cap] 201):=by
 go_enter Tryz.func225,Tryz.ntmps225
 go_wp2
 go_ret
 exact⟨rfl,rfl⟩
theorem na {W W' : World} (h:Ext W W'):KeepsOthers W W':=⟨h.size,fun k o hk _=>(h.block k (Array.getElem?_eq_some_iff.1 hk).1).trans hk⟩
theorem Blk.own {A B:World} {row:Option Nat} {g:Nat} {t:TypeId} {cs:LV} (h:Blk A g t cs) (hg:A.grownBy B row) (hr:∀ r,row=some r→∃ o:Obj,A.heap[r]?=some o∧o.isCells=false):Blk B g t cs:=by
 refine h.grown hg (fun e=>?_);obtain⟨o,h1,h2⟩:=hr g e.symm;unfold Blk at h;rw[h] at h1;cases h1;cases h2
end
section
open Go.RowKit
def bw (x y c:Nat):Nat:=if x<y+c then 1 else 0
theorem fo (x y b:Nat) (hb:b≤1) (w:World) :
  (callFunc 139 #[.int .u64 x,.int .u64 y,.int .u64 b]).run Tryz.prog w =
   .ok (.value (.tuple #[.int .u64 (((x+18446744073709551616 - y - b)%18446744073709551616:Nat):Int),.int .u64 ((bw x y b:Nat):Int)])) w:=by
 rw[run_callFunc_extern (Tryz.func139) Kr Kr Kr (e:=sub64Entry) Kr,run_sub64 x y b hb];rfl
def br (a b:Nat):Nat→Nat
 | 0=>0
 | k+1=>bw (wd k a) (wd k b) (br a b k)
def sb (a b k:Nat):Nat:=(wd k a+18446744073709551616 - wd k b - br a b k)%18446744073709551616
theorem afi (a b k:Nat):br a b k≤1:=by
 cases k with
 | zero=>exact Nat.zero_le _
 | succ k=>simp only[br,bw];split<;>omega
theorem sJ (x y c:Nat) (hx:x<18446744073709551616) (hy:y<18446744073709551616) (hc:c≤1) :
  (x+18446744073709551616 - y - c)%18446744073709551616+y+c=x+18446744073709551616*(if x<y+c then 1 else 0)∧(x+18446744073709551616 - y - c)%18446744073709551616<18446744073709551616∧(if x<y+c then 1 else 0:Nat)≤1:=by
 split<;>omega
theorem acD (S A B M c:Nat) (hS:S<M) (hA:A<M) (hB:B<M) (hc:c≤1) (h:S+B=A+M*c):S=(A+M - B)%M∧c=if A<B then 1 else 0:=by
 have:c=0∨c=1:=by omega
 rcases this with rfl|rfl
 ·rw[show A+M - B=S+M by omega,Nat.add_mod_right,Nat.mod_eq_of_lt hS,if_neg Om];exact⟨rfl,rfl⟩
 ·rw[show A+M - B=S by omega,Nat.mod_eq_of_lt hS,if_pos Om];exact⟨rfl,rfl⟩
theorem dB (a b:Nat) (ha:a<ze) (hb:b<ze) (s0 s1 s2 s3 c1 c2 c3 c4:Nat)
  (e0:s0=(wd 0 a+18446744073709551616 - wd 0 b - 0)%18446744073709551616) (f0:c1=if wd 0 a<wd 0 b+0 then 1 else 0)
  (e1:s1=(wd 1 a+18446744073709551616 - wd 1 b - c1)%18446744073709551616) (f1:c2=if wd 1 a<wd 1 b+c1 then 1 else 0)
  (e2:s2=(wd 2 a+18446744073709551616 - wd 2 b - c2)%18446744073709551616) (f2:c3=if wd 2 a<wd 2 b+c2 then 1 else 0)
  (e3:s3=(wd 3 a+18446744073709551616 - wd 3 b - c3)%18446744073709551616) (f3:c4=if wd 3 a<wd 3 b+c3 then 1 else 0) :
  uW s0 s1 s2 s3=(a+ze - b)%ze∧c4=bw a b 0:=by
 have h1:=vC ha;have h2:=vC hb;have:=z8 0 a;have:=z8 1 a;have:=z8 2 a;have:=z8 3 a;have:=z8 0 b;have:=z8 1 b;have:=z8 2 b;have:=z8 3 b;generalize wd 0 a=a0 at *;generalize wd 1 a=a1 at *;generalize wd 2 a=a2 at *;generalize wd 3 a=a3 at *;generalize wd 0 b=b0 at *;generalize wd 1 b=b1 at *;generalize wd 2 b=b2 at *;generalize wd 3 b=b3 at *;obtain⟨g0,l0,m0⟩:=sJ a0 b0 0 Om Om Om;rw[← e0,← f0] at g0;rw[← e0] at l0;rw[← f0] at m0;obtain⟨g1,l1,m1⟩:=sJ a1 b1 c1 Om Om Om;rw[← e1,← f1] at g1;rw[← e1] at l1;rw[← f1] at m1;obtain⟨g2,l2,m2⟩:=sJ a2 b2 c2 Om Om Om;rw[← e2,← f2] at g2;rw[← e2] at l2;rw[← f2] at m2;obtain⟨g3,l3,m3⟩:=sJ a3 b3 c3 Om Om Om;rw[← e3,← f3] at g3;rw[← e3] at l3;rw[← f3] at m3;have key:uW s0 s1 s2 s3+b=a+ze*c4:=by
  rw[← h1,← h2];clear e0 e1 e2 e3 f0 f1 f2 f3 h1 h2 ha hb l0 l1 l2 l3 m0 m1 m2 m3;simp only[uW,ze];omega
 have hs:=mS l0 l1 l2 l3;clear e0 e1 e2 e3 f0 f1 f2 f3 h1 h2 g0 g1 g2 g3 l0 l1 l2 l3 m0 m1 m2;simp only[bw,Nat.add_zero];exact acD _ _ _ _ _ hs ha hb m3 key
end
section
open Go.RowKit
theorem aa9 (n:Nat) (h:n<18446744073709551616):n<ze:=by unfold ze;omega
theorem tQ (n:Nat) (h:n<18446744073709551616):Value.agg #[.int .u64 (n:Int),.int .u64 0,.int .u64 0,.int .u64 0]=zi n:=by
 have:=qX h (by omega:0<18446744073709551616) (by omega:0<18446744073709551616) (by omega:0<18446744073709551616);simpa [uW] using this
def eqN (a b:Nat):Bool:=decide (a=b)
theorem bi (n:Nat) (h:n<18446744073709551616):Tryz.prog.keyLits 1 22 [.int .u64 (n:Int)]=some [.int .u64 (n:Int)]:=by
 have hw:(Lit.int .u64 (n:Int)).wf=true:=by
  simp[Lit.wf,IntKind.min,IntKind.max,IntKind.signed,IntKind.bits];omega
 simp[Program.keyLits,Tryz.underlying22,hw]
theorem pZ (a:Nat):Tryz.prog.keyLits 2 24 (zc a)=some [.int .u64 ((wd 0 a:Nat):Int),.int .u64 ((wd 1 a:Nat):Int),.int .u64 ((wd 2 a:Nat):Int),.int .u64 ((wd 3 a:Nat):Int)]:=by
 have c1:Tryz.prog.cellsOf 24=4:=Kr
 have c2:Tryz.prog.cellsOf 22=1:=Kr
 have k:=fun i=>bi (wd i a) (z8 i a);have r:List.range 4=[0,1,2,3]:=rfl;unfold Program.keyLits;simp[Tryz.underlying24,c1,c2,r,k]
theorem qi {a b:Nat} (ha:a<ze) (hb:b<ze) (w:World) :
  (binOp .eql 24 (zi a) (zi b)).run Tryz.prog w=.ok (.bool (eqN a b)) w:=by
 obtain⟨r,hr,hiff⟩:=run_equalIn_deep (P:=Tryz.prog) 9998 2 24 Kr w 2 2 (zi a) (zi b)
  [.int .u64 ((wd 0 a:Nat):Int),.int .u64 ((wd 1 a:Nat):Int),.int .u64 ((wd 2 a:Nat):Int),.int .u64 ((wd 3 a:Nat):Int)]
  [.int .u64 ((wd 0 b:Nat):Int),.int .u64 ((wd 1 b:Nat):Int),.int .u64 ((wd 2 b:Nat):Int),.int .u64 ((wd 3 b:Nat):Int)]
  Kr Kr (pZ a) (pZ b)
 have e:r=eqN a b:=by
  unfold eqN;rw[Bool.eq_iff_iff,hiff];simp only[decide_eq_true_eq,List.cons.injEq,Lit.int.injEq,true_and,and_true,Int.ofNat_inj];constructor
  ·rintro ⟨h0,h1,h2,h3⟩;exact aaP ha hb h0 h1 h2 h3
  ·rintro rfl;exact⟨rfl,rfl,rfl,rfl⟩
 subst e;simp only[run_eql_struct,hr,Result.andThen]
theorem ye {a b:Nat} (ha:a<ze) (hb:b<ze) (w:World) :
  (Op.equalIn 10000 24 (zi a) (zi b)).run Tryz.prog w=.ok (eqN a b) w:=by
 have:=qi ha hb w;rw[run_eql_struct] at this;cases h:(Op.equalIn 10000 24 (zi a) (zi b)).run Tryz.prog w with
 | ok r w'=>rw[h] at this;simp only[Result.andThen,Result.ok.injEq,Value.bool.injEq] at this;rw[this.1,this.2]
 | halt h' w'=>rw[h] at this;simp[Result.andThen] at this
attribute [local go_sem] ye
theorem adD {a b:Nat} (h:a≠b):eqN a b=false:=by simp[eqN,h]
def uU (a b:Nat):Int:=if a=b then 0 else if a<b then -1 else 1
end
section
open Go.RowKit Go.Extern.Stop Go.Stop Go.Extern
namespace Sx
theorem ad7 (t:Value) (w:World) :
  Calls Tryz.prog 148 #[.nilIface,t] w fun e w'=>e=.returned (.bool false)∧w'=w:=by
 go_enter Tryz.func148,Tryz.ntmps148
 go_wp2
 go_ret
 exact⟨rfl,rfl⟩
theorem Asx.valueOf27 (t:Addr) (w:World):(ReflectliteValue.unpack (.iface 243 (.pointer (some t)))).run Tryz.prog w
  = .ok (.agg #[.pointer (some ⟨3,243,none⟩),.pointer (some ⟨w.heap.size,0,none⟩),.int .u64 150]) (w.alloc (.cells #[.pointer (some t)] 243)):=Kr
theorem Asx.type27 (a:Addr) (w:World):(ReflectliteValue.methodAny (ReflectliteValue.valueError "reflectlite.Value.Type" 0) (fun t _ _ _=>ReflectliteType.toType t) #[.agg #[.pointer (some ⟨3,243,none⟩),.pointer (some a),.int .u64 150]]).run Tryz.prog w
  = .ok (.iface 341 (.agg #[.pointer (some ⟨3,243,none⟩)])) w:=Kr
theorem Asx.methodKind (h:Value) (w:World):(Go.method 521 341 (.agg #[h]) "Kind").run Tryz.prog w=.ok (291,h) w:=Kr
theorem Asx.kind27 (w:World):((ReflectliteType.abiMethod fun t=>(fun a:Nat=>Value.int IntKind.u8 (a:Int)) <$> Rtype.kind t) #[.pointer (some ⟨3,243,none⟩)]).run Tryz.prog w=.ok (.int .u8 22) w:=Kr
theorem Asx.kind25 (w:World):((ReflectliteType.abiMethod fun t=>(fun a:Nat=>Value.int IntKind.u8 (a:Int)) <$> Rtype.kind t) #[.pointer (some ⟨3,182,none⟩)]).run Tryz.prog w=.ok (.int .u8 22) w:=Kr
theorem rlm (z:Sem Value) (f:TypeId→Addr→Nat→Nat→Sem Value) (v:Value) :
  ReflectliteValue.method z f #[v]=(do match ← ReflectliteValue.parts v with|none=>z|some (t,a,fl)=>f t a fl (fl%32)):=rfl
theorem Asx.parts27 (a:Addr) (w:World):(ReflectliteValue.parts (.agg #[.pointer (some ⟨3,243,none⟩),.pointer (some a),.int .u64 150])).run Tryz.prog w=.ok (some (243,a,150)) w:=Kr
theorem Asx.isNil27 (a p:Addr) (W:World) (ha:W.cell? a=some (.pointer (some p))) :
  (ReflectliteValue.method (ReflectliteValue.valueError "reflectlite.Value.IsNil" 0) ReflectliteValue.isNil #[.agg #[.pointer (some ⟨3,243,none⟩),.pointer (some a),.int .u64 150]]).run Tryz.prog W=.ok (.bool false) W:=by
 rw[rlm];simp only[Sem.run_bind,Asx.parts27,Result.andThen];simp[ReflectliteValue.isNil,loadVar,isAgg,underlying,Tryz.underlying243,ha,Result.andThen]
theorem Asx.methodElem (h:Value) (w:World):(Go.method 521 341 (.agg #[h]) "Elem").run Tryz.prog w=.ok (302,.agg #[h]) w:=Kr
theorem Asx.methodImplements (h:Value) (w:World):(Go.method 521 341 (.agg #[h]) "Implements").run Tryz.prog w=.ok (303,.agg #[h]) w:=Kr
theorem Asx.methodAssignableTo (h:Value) (w:World):(Go.method 521 341 (.agg #[h]) "AssignableTo").run Tryz.prog w=.ok (300,.agg #[h]) w:=Kr
theorem Asx.elem27 (w:World):(ReflectliteType.method ReflectliteType.elem #[.agg #[.pointer (some ⟨3,243,none⟩)]]).run Tryz.prog w=.ok (.iface 341 (.agg #[.pointer (some ⟨3,182,none⟩)])) w:=Kr
theorem Asx.implements25 (w:World):(ReflectliteType.relation "Implements" ReflectliteType.implements_ #[.agg #[.pointer (some ⟨3,182,none⟩)],.iface 341 (.agg #[.pointer (some ⟨3,174,none⟩)])]).run Tryz.prog w=.ok (.bool true) w:=Kr
theorem Asx.typeOf25 (v:Value) (w:World):(ReflectliteType.typeOf #[.iface 182 v]).run Tryz.prog w=.ok (.iface 341 (.agg #[.pointer (some ⟨3,182,none⟩)])) w:=Kr
theorem Asx.assignable25 (w:World):(ReflectliteType.relation "AssignableTo" ReflectliteType.assignableTo #[.agg #[.pointer (some ⟨3,182,none⟩)],.iface 341 (.agg #[.pointer (some ⟨3,182,none⟩)])]).run Tryz.prog w=.ok (.bool true) w:=Kr
theorem Asx.valueOf25 (e:Addr) (w:World):(ReflectliteValue.unpack (.iface 182 (.pointer (some e)))).run Tryz.prog w
  = .ok (.agg #[.pointer (some ⟨3,182,none⟩),.pointer (some ⟨w.heap.size,0,none⟩),.int .u64 150]) (w.alloc (.cells #[.pointer (some e)] 182)):=Kr
theorem Asx.elemOf27 (w:World):(Rtype.elem? 243).run Tryz.prog w=.ok (some 182) w:=Kr
theorem Asx.mk25 (p:Addr) (w:World):(ReflectliteValue.mk 182 p ReflectliteValue.flagAddr).run Tryz.prog w=.ok (.agg #[.pointer (some ⟨3,182,none⟩),.pointer (some p),.int .u64 406]) w:=Kr
theorem Asx.elemV27 (a p:Addr) (W:World) (ha:W.cell? a=some (.pointer (some p))) :
  (ReflectliteValue.method (ReflectliteValue.valueError "reflectlite.Value.Elem" 0) ReflectliteValue.elem #[.agg #[.pointer (some ⟨3,243,none⟩),.pointer (some a),.int .u64 150]]).run Tryz.prog W
   = .ok (.agg #[.pointer (some ⟨3,182,none⟩),.pointer (some p),.int .u64 406]) W:=by
 rw[rlm];simp only[Sem.run_bind,Asx.parts27,Result.andThen];simp[ReflectliteValue.elem,loadVar,isAgg,underlying,Tryz.underlying243,ha,Result.andThen,Asx.elemOf27,Asx.mk25]
theorem rls (v x:Value):ReflectliteValue.set #[v,x]=(do
  let (some (dst,a,fl),some (src,b,_)):=(← ReflectliteValue.parts v,← ReflectliteValue.parts x)
   | unsupported (.noEntry "extern/(internal/reflectlite.Value).Set.zeroValue")
  if fl / ReflectliteValue.flagAddr%2 == 0 then unsupported (.noEntry "extern/(internal/reflectlite.Value).Set.unaddressable")
  let val ← loadVar src b
  if ← Rtype.directlyAssignable dst src then storeVar dst a val
  else if ← Rtype.implements dst src then
   if (← Rtype.kind src) == 20 then
    match val with
    | .nilIface=>unsupported (.noEntry "extern/reflectlite: a nil value of one interface type handed on as a value of another")
    | _=>storeVar dst a val
   else storeVar dst a (.iface src val)
  else panicString ("reflectlite.Set: value of type "++(← Rtype.spelt src)++ " is not assignable to type "++(← Rtype.spelt dst))
  pure (.tuple #[])):=rfl
theorem Asx.parts25a (a:Addr) (w:World):(ReflectliteValue.parts (.agg #[.pointer (some ⟨3,182,none⟩),.pointer (some a),.int .u64 406])).run Tryz.prog w=.ok (some (182,a,406)) w:=Kr
theorem Asx.parts25 (a:Addr) (w:World):(ReflectliteValue.parts (.agg #[.pointer (some ⟨3,182,none⟩),.pointer (some a),.int .u64 150])).run Tryz.prog w=.ok (some (182,a,150)) w:=Kr
theorem Asx.direct25 (w:World):(Rtype.directlyAssignable 182 182).run Tryz.prog w=.ok true w:=Kr
theorem Asx.set25 (ta b e:Addr) (old:Value) (W:World) (hb:W.cell? b=some (.pointer (some e))) (ht:W.cell? ta=some old) (hf:W.frozen? ta=false) :
  (ReflectliteValue.set #[.agg #[.pointer (some ⟨3,182,none⟩),.pointer (some ta),.int .u64 406],.agg #[.pointer (some ⟨3,182,none⟩),.pointer (some b),.int .u64 150]]).run Tryz.prog W
   = .ok (.tuple #[]) (W.setCell ta (.pointer (some e))):=by
 rw[rls];simp only[Sem.run_bind,Asx.parts25a,Asx.parts25,Result.andThen];simp[ReflectliteValue.flagAddr,loadVar,isAgg,underlying,Tryz.underlying182,hb,Result.andThen,Asx.direct25,storeVar,Value.cells,storeCells,Addr.add];rw[run_store Tryz.prog W ta _ _ (by rfl)];simp[ht,hf]
theorem adU (e t:Addr) (old:Value) (w:World) (hg:w.cell? ⟨0,0,none⟩=some (.iface 341 (.agg #[.pointer (some ⟨3,174,none⟩)]))) (ht0:w.cell? t=some old) (hf0:w.frozen? t=false) :
  Calls Tryz.prog 148 #[.iface 182 (.pointer (some e)),.iface 243 (.pointer (some t))] w fun ev w'=>ev=.returned (.bool true)∧w'=((((w.alloc (.cells #[.pointer (some t)] 243)).alloc (.cells #[.pointer (some ⟨3,243,none⟩),.pointer (some ⟨w.heap.size,0,none⟩),.int .u64 150] 296)).alloc (.cells #[.pointer (some ⟨3,243,none⟩),.pointer (some ⟨w.heap.size,0,none⟩),.int .u64 150] 296)).alloc (.cells #[.pointer (some e)] 182)).setCell t (.pointer (some e)):=by
 have h6:=@run_callFunc_extern Tryz.prog 190 _ (fun args=>ReflectliteValue.unpack (args.getD 0 (.tuple #[]))) Tryz.func190 Kr Kr Kr Kr;have h7:=@run_callFunc_extern Tryz.prog 191 _ (ReflectliteValue.methodAny (ReflectliteValue.valueError "reflectlite.Value.Type" 0) (fun t _ _ _=>ReflectliteType.toType t)) Tryz.func191 Kr Kr Kr Kr;have h8:=@run_callFunc_extern Tryz.prog 192 _ (ReflectliteValue.method (ReflectliteValue.valueError "reflectlite.Value.IsNil" 0) ReflectliteValue.isNil) Tryz.func192 Kr Kr Kr Kr;have h27:=@run_callFunc_extern Tryz.prog 291 _ (ReflectliteType.abiMethod fun t=>do pure (.int .u8 (← Rtype.kind t))) Tryz.func291 Kr Kr Kr Kr;have h37:=@run_callFunc_extern Tryz.prog 302 _ (ReflectliteType.method ReflectliteType.elem) Tryz.func302 Kr Kr Kr Kr;have h38:=@run_callFunc_extern Tryz.prog 303 _ (ReflectliteType.relation "Implements" ReflectliteType.implements_) Tryz.func303 Kr Kr Kr Kr;have h10:=@run_callFunc_extern Tryz.prog 233 _ ReflectliteType.typeOf Tryz.func233 Kr Kr Kr Kr;have h35:=@run_callFunc_extern Tryz.prog 300 _ (ReflectliteType.relation "AssignableTo" ReflectliteType.assignableTo) Tryz.func300 Kr Kr Kr Kr;have h11:=@run_callFunc_extern Tryz.prog 234 _ (ReflectliteValue.method (ReflectliteValue.valueError "reflectlite.Value.Elem" 0) ReflectliteValue.elem) Tryz.func234 Kr Kr Kr Kr;have h12:=@run_callFunc_extern Tryz.prog 235 _ ReflectliteValue.set Tryz.func235 Kr Kr Kr Kr;have tO:=Asx.typeOf25;have mA:=Asx.methodAssignableTo;have a25:=Asx.assignable25;have v25:=Asx.valueOf25;have f6:=Asx.valueOf27;have f7:=Asx.type27;have mK:=Asx.methodKind;have mE:=Asx.methodElem;have mI:=Asx.methodImplements;have k27:=Asx.kind27;have k25:=Asx.kind25;have e27:=Asx.elem27;have i25:=Asx.implements25;have n8:=Asx.isNil27 ⟨w.heap.size,0,none⟩ t ((w.alloc (.cells #[.pointer (some t)] 243)).alloc (.cells #[.pointer (some ⟨3,243,none⟩),.pointer (some ⟨w.heap.size,0,none⟩),.int .u64 150] 296)) Sm;have hlt:0<w.heap.size:=by
  rcases Nat.eq_zero_or_pos w.heap.size with h0|h
  ·simp[World.cell?,h0] at hg
  ·exact h
 have hg2:((w.alloc (.cells #[.pointer (some t)] 243)).alloc (.cells #[.pointer (some ⟨3,243,none⟩),.pointer (some ⟨w.heap.size,0,none⟩),.int .u64 150] 296)).cell? ⟨0,0,none⟩=some (.iface 341 (.agg #[.pointer (some ⟨3,174,none⟩)])):=by
  rw[World.cell?_alloc_lt _ _ ⟨0,0,none⟩ Sm,World.cell?_alloc_lt _ _ ⟨0,0,none⟩ hlt];exact hg
 have htl:t.block<w.heap.size:=by
  rcases Nat.lt_or_ge t.block w.heap.size with h|h
  ·exact h
  ·simp[World.cell?,Array.getElem?_eq_none h] at ht0
 have el:=Asx.elemV27 ⟨w.heap.size,0,none⟩ t (((w.alloc (.cells #[.pointer (some t)] 243)).alloc (.cells #[.pointer (some ⟨3,243,none⟩),.pointer (some ⟨w.heap.size,0,none⟩),.int .u64 150] 296)).alloc (.cells #[.pointer (some ⟨3,243,none⟩),.pointer (some ⟨w.heap.size,0,none⟩),.int .u64 150] 296)) (by rw[World.cell?_alloc_lt _ _ ⟨w.heap.size,0,none⟩ (by simp;omega)];simp)
 have st:=Asx.set25 t ⟨w.heap.size+1+1+1,0,none⟩ e old ((((w.alloc (.cells #[.pointer (some t)] 243)).alloc (.cells #[.pointer (some ⟨3,243,none⟩),.pointer (some ⟨w.heap.size,0,none⟩),.int .u64 150] 296)).alloc (.cells #[.pointer (some ⟨3,243,none⟩),.pointer (some ⟨w.heap.size,0,none⟩),.int .u64 150] 296)).alloc (.cells #[.pointer (some e)] 182))
  (by rw[World.cell?_alloc_at _ _ _ _ Sm];rfl)
  (by rw[World.cell?_alloc_lt _ _ t (by simp;omega),World.cell?_alloc_lt _ _ t (by simp;omega),World.cell?_alloc_lt _ _ t (by simp;omega),World.cell?_alloc_lt _ _ t htl];exact ht0)
  (by rw[World.frozen?_alloc_old _ _ t (by simp;omega),World.frozen?_alloc_old _ _ t (by simp;omega),World.frozen?_alloc_old _ _ t (by simp;omega),World.frozen?_alloc_old _ _ t (Nat.ne_of_lt htl)];exact hf0)
 go_enter Tryz.func148,Tryz.ntmps148
 go_wp2;refine wp_loop_rounds 1 ?_;rw[rounds_succ];go_wp2
 go_ret
 exact⟨rfl,rfl⟩
end Sx
end
end Go.Proofs.YtiaibpcaloigkaaGreatDoor
