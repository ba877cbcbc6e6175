/- Part 8 of the proof. -/
import Derived.Test.YtiiefkchpicncaaGreatDoorA02
import Derived.Test.YtiiefkchpicncaaGreatDoorA01
import Derived.Test.YtiiefkchpicncaaGreatDoorProg
import Derived.StillTailTactics
import Derived.BigQuiet
import Derived.Deep.QuietTactic
import Derived.Deep.RegionHeld3
import Derived.Deep.LoopGhost
import Derived.Shelf.Spec.BitsCarry
import Derived.Handy
import Derived.OwnWalk
import Derived.Laws.AppendOwnNone
import Derived.RangeFuncNested
import Derived.RangeFuncBound
import Derived.RangeFuncCalls
import Derived.RangeFuncBox
import Derived.RangeFuncLeaves
import Derived.RangeFuncFrom
import Derived.Shelf.Abstract
import Derived.Shelf.RegionOpen
import Derived.OwnWalkIn
import Derived.TacticsInMore
import Derived.LoopNIn
import Derived.LoopIn
import Derived.DeepKeys
set_option linter.unusedSimpArgs false
set_option linter.unusedVariables false
set_option maxHeartbeats 8000000
namespace Go.Proofs.YtiiefkchpicncaaGreatDoor
section
open Go.RowKit
theorem nD (x y c:Nat) (hc:c≤1) (w:World) :
  (callFunc 228 #[.int .u64 x,.int .u64 y,.int .u64 c]).run Tryz.prog w =
   .ok (.value (.tuple #[.int .u64 (((x+y+c)%18446744073709551616:Nat):Int),.int .u64 (((x+y+c) / 18446744073709551616:Nat):Int)])) w:=by
 rw[run_callFunc_extern (Tryz.func228) (by kernel_rfl) (by kernel_rfl) (by kernel_rfl) (e:=add64Entry) (by kernel_rfl),run_add64 x y c Om Om Om Om];simp only[Result.andThen];congr 5<;>omega
def cy (a b:Nat):Nat→Nat
 | 0=>0
 | k+1=>(wd k a+wd k b+cy a b k) / 18446744073709551616
def sw (a b k:Nat):Nat:=(wd k a+wd k b+cy a b k)%18446744073709551616
theorem ae1 (a b k:Nat):cy a b k≤1:=by
 induction k with
 | zero=>exact Nat.zero_le _
 | succ k ih=>have:=z7 k a;have:=z7 k b;simp only[cy];omega
def u64 (n:Nat):Value:=.int .u64 ((n:Nat):Int)
def vE (a b k:Nat):List Value:=[if 0<k then .int .u64 (sw a b 0:Nat) else .int .u64 0,if 1<k then .int .u64 (sw a b 1:Nat) else .int .u64 0,if 2<k then .int .u64 (sw a b 2:Nat) else .int .u64 0,if 3<k then .int .u64 (sw a b 3:Nat) else .int .u64 0]
theorem yV (a:Nat) {k:Nat} (h:k<4):(zb a)[k]?=some (.int .u64 (wd k a:Nat)):=by
 have:k=0∨k=1∨k=2∨k=3:=by omega
 rcases this with rfl|rfl|rfl|rfl<;>rfl
theorem km (a b:Nat) {k:Nat} (h:k<4):(vE a b k)[k]?=some (.int .u64 0):=by
 have:k=0∨k=1∨k=2∨k=3:=by omega
 rcases this with rfl|rfl|rfl|rfl<;>rfl
theorem cq (a b:Nat) {k:Nat} (h:k<4):(vE a b k).set k (.int .u64 (sw a b k:Nat))=vE a b (k+1):=by
 have:k=0∨k=1∨k=2∨k=3:=by omega
 rcases this with rfl|rfl|rfl|rfl<;>rfl
set_option maxRecDepth 100000 in
theorem nk (a b:Nat) (ha:a<zd) (hbb:b<zd) (w:World) :
  Calls Tryz.prog 203 #[zj a,zj b] w fun e w'=>e=.returned (.tuple #[zj ((a+b)%zd),.int .u64 (((a+b) / zd:Nat):Int)])∧Below w.heap.size w w':=by
 have hA:=nD
 go_enter Tryz.func203,Tryz.ntmps203
 go_wp2;generalize hW:((w.alloc _).alloc _).alloc _=W;have hg0:Blk W w.heap.size 24 (zb a):=by subst hW;exact ((Blk.new _ _ _).alloc _).alloc _
 have hg1:Blk W (w.heap.size+1) 24 (zb b):=by subst hW;exact (Blk.new' (by simp)).alloc _
 have hg2:Blk W (w.heap.size+1+1) 24 (vE a b 0):=by subst hW;exact Blk.new' (by simp)
 have hb:Below w.heap.size w W:=by subst hW;exact (((Below.refl _ _).alloc (Nat.le_refl _) _).alloc (by simp) _).alloc (by simp;omega) _
 clear hW
 go_loopw [5,7] (fun c i wr=>∃ k:Nat,k≤4∧i=.int .i64 k∧c=.int .u64 (cy a b k:Nat)∧Blk wr w.heap.size 24 (zb a)∧Blk wr (w.heap.size+1) 24 (zb b)∧Blk wr (w.heap.size+1+1) 24 (vE a b k)∧Below w.heap.size w wr) (fun _ i _=>4 - (intOf i).toNat)
 case atStart=>exact⟨0,by omega,rfl,rfl,hg0,hg1,hg2,hb⟩
 case round =>
  clear hg0 hg1 hg2 hb;obtain⟨k,hk,rfl,rfl,hg0,hg1,hg2,hb⟩:=hrel;have hc:=ae1 a b k
  by_cases hlt:k<4
  ·have c0:=hg0.cell_at (yV a hlt);have c1:=hg1.cell_at (yV b hlt);have c2:=hg2.cell_at (km a b hlt);have f2:=hg2.frozen k;go_wp2;have lt0:=hg0.lt;have lt1:=hg1.lt;have lt2:=hg2.lt;refine Kp.wp_region_kpf [11] 13 (by kernel_rfl) (by kernel_rfl) (fun L Fin hL hFin=>?_);have HL:=Lib.hid hL;clear hL;have HF:=Lib.hid hFin;clear hFin;simp only[List.take_succ_cons,List.take_zero,List.drop_succ_cons,List.drop_zero];apply Exists.intro
   repeat ((first|(apply Kp.kp_free;(first|rfl|(rw[HL.out];rfl));(intro w1;go_simp;rfl))|(apply Kp.kp_now;rfl;(first|rfl|(rw[HL.out];rfl));(intro w1 hb1;obtain⟨hcw,hfw⟩:=uu hb1;clear hb1;go_simp;rfl)));simp only[Act.put,List.setIfInBounds_toArray,List.set_cons_succ,List.set_cons_zero])
   apply Kp.kp_nil;refine HF.out _ _ (fun w1 hb1 _=>?_);clear HL HF;simp only[List.drop_succ_cons,List.drop_zero];have c3:=(hg2.below hb1 lt2).cell_at (km a b hlt);have f3:=(hg2.below hb1 lt2).frozen k;go_wp2;refine NoPanic.normal ?_;go_wp2
   go_roundw
   case rel =>
    refine⟨k+1,by omega,by go_num,?_,(hg0.below hb1 lt0).far (by simp;omega) _,(hg1.below hb1 lt1).far (by simp) _,?_,(hb.trans (hb1.mono hb.size)).setCell (by simp;omega) _⟩
    ·simp[cy]
    ·rw[← cq a b hlt];exact (hg2.below hb1 lt2).set_ k _
   case measure=>simp[intOf];omega
  ·obtain rfl:k=4:=by omega
   have d0:wr.cell? ⟨w.heap.size+1+1,0,none⟩=some (.int .u64 ((sw a b 0:Nat):Int)):=hg2.cell_at rfl;have d1:wr.cell? ⟨w.heap.size+1+1,1,none⟩=some (.int .u64 ((sw a b 1:Nat):Int)):=hg2.cell_at rfl;have d2:wr.cell? ⟨w.heap.size+1+1,2,none⟩=some (.int .u64 ((sw a b 2:Nat):Int)):=hg2.cell_at rfl;have d3:wr.cell? ⟨w.heap.size+1+1,3,none⟩=some (.int .u64 ((sw a b 3:Nat):Int)):=hg2.cell_at rfl;have ff:=hg2.frozen;clear hA;go_wp2;have hs:=fK a b ha hbb (sw a b 0) (sw a b 1) (sw a b 2) (sw a b 3) (cy a b 1) (cy a b 2) (cy a b 3) (cy a b 4) (by simp[sw,cy]) (by simp[cy]) rfl rfl rfl rfl rfl rfl;have hlt:=fun i=>Nat.mod_lt (wd i a+wd i b+cy a b i) (show 0<18446744073709551616 by omega);have hv:=sc (hlt 0) (hlt 1) (hlt 2) (hlt 3);have ev:Value.agg #[.int .u64 ((sw a b 0:Nat):Int),.int .u64 ((sw a b 1:Nat):Int),.int .u64 ((sw a b 2:Nat):Int),.int .u64 ((sw a b 3:Nat):Int)]=zj ((a+b)%zd):=by rw[← hs.1];exact hv
   refine bodyPost_ret (v:=.tuple #[zj ((a+b)%zd),.int .u64 (((a+b) / zd:Nat):Int)]) ?_ rfl ⟨rfl,?_⟩
   ·rw[← ev,← hs.2];simp[results,Tryz.results203,go_sem,d0,d1,d2,d3]
   ·refine ((((hb.setCell ?_ _).setCell ?_ _).setCell ?_ _).setCell ?_ _)<;>(simp;omega)
def Rd (w:World) (v:Value) (xs:List Value):Prop :=
 (∀ u∈xs,u.oneCell'=true)∧((v=.slice none 0 0∧xs=[])∨∃ (a:Addr) (c:Nat),v=.slice (some a) xs.length c∧a.block<w.heap.size∧∀ j u,xs[j]?=some u→w.cell? (a.add j)=some u)
theorem add_block (a:Addr) (j:Nat):(a.add j).block=a.block:=by unfold Addr.add;split<;>rfl
theorem Rd.below {w w' : World} {v:Value} {xs:List Value} {B:Nat} (h:Rd w v xs) (hB:w.heap.size=B) (hb:Below B w w'):Rd w' v xs:=by
 subst hB;obtain⟨h1,h2|⟨a,c,h2,h3,h4⟩⟩:=h
 ·exact⟨h1,.inl h2⟩
 ·exact⟨h1,.inr ⟨a,c,h2,Nat.lt_of_lt_of_le h3 hb.size,fun j u hj=>(hb.cell (p:=a.add j) (by rw[add_block];exact h3)).trans (h4 j u hj)⟩⟩
def mw (n1 n2 k:Nat):Nat:=if k=0 then 0 else if k=1 then n1 else n1+n2
def ada (xs1 xs2:List Value) (k:Nat):List Value:=if k=0 then [] else if k=1 then xs1 else xs1++xs2
theorem qE {B:Nat} {w0 w w' : World} {e:TypeId} {size n:Nat} {v:Value} {xs:List Value} (hB:B≤w.heap.size) (hb:Below B w0 w) (h:w.ownsRow B e size v n xs) (hg:w.grownBy w' v.ownBlock):Below B w0 w':=by
 refine hb.grown hg hB (fun k e=>?_)
 rcases h.2 with ⟨rfl,_⟩|⟨g,cap,cur,rfl,hB,_⟩
 ·cases e
 ·cases e;exact hB
set_option maxRecDepth 100000 in
theorem tR (v1 v2:Value) (xs1 xs2:List Value) (S c:Nat) (w:World) (h1:Rd w v1 xs1) (h2:Rd w v2 xs2) (hS:Blk w S 185 [v1,v2]) (hn:0<xs1.length+xs2.length) (hm:xs1.length+xs2.length≤1099511627776) :
  Calls Tryz.prog 196 #[.slice (some ⟨S,0,none⟩) 2 c] w fun e w' =>
   ∃ v,e=.returned v∧w'.ownsRow w.heap.size 22 1 v (xs1.length+xs2.length) (xs1++xs2)∧Below w.heap.size w w':=by
 have hb1:∃ b n c,v1=.slice b n c∧n=xs1.length:=by
  obtain⟨_,⟨rfl,rfl⟩|⟨a,c,rfl,_⟩⟩:=h1
  ·exact⟨_,_,_,rfl,rfl⟩
  ·exact⟨_,_,_,rfl,rfl⟩
 have hb2:∃ b n c,v2=.slice b n c∧n=xs2.length:=by
  obtain⟨_,⟨rfl,rfl⟩|⟨a,c,rfl,_⟩⟩:=h2
  ·exact⟨_,_,_,rfl,rfl⟩
  ·exact⟨_,_,_,rfl,rfl⟩
 obtain⟨b1,n1,c1,rfl,e1⟩:=hb1;obtain⟨b2,n2,c2,rfl,e2⟩:=hb2;rw[← e1,← e2] at hn hm ⊢;have lS:=hS.lt;have cS0:=hS.cell_at (i:=0) rfl;have cS1:=hS.cell_at (i:=1) rfl;have H1:=Lib.hid h1;have H2:=Lib.hid h2;have E1:=Lib.hid e1;have E2:=Lib.hid e2;clear h1 h2 e1 e2
 go_enter Tryz.func196,Tryz.ntmps196
 go_wp2
 go_loopw [3,11] (fun t3 t11 wr=>∃ k:Nat,k≤2∧t11=.int .i64 k∧t3=.int .i64 (mw n1 n2 k:Nat)∧wr=w) (fun _ i _=>2 - (intOf i).toNat)
 case atStart=>exact⟨0,by omega,rfl,rfl,rfl⟩
 case round =>
  obtain⟨k,hk,rfl,rfl,rfl⟩:=hrel;have hk3:k=0∨k=1∨k=2:=by omega
  rcases hk3 with rfl|rfl|rfl
  ·have ht0:mw n1 n2 0=0:=rfl;rw[ht0];go_wp2
   go_roundw
   case rel=>exact⟨1,by omega,rfl,by simp[mw],trivial⟩
   case measure=>simp[intOf]
  ·have ht0:mw n1 n2 1=n1:=rfl;rw[ht0];go_wp2
   go_roundw
   case rel=>exact⟨2,by omega,rfl,by simp[mw],trivial⟩
   case measure=>simp[intOf]
  ·have ht0:mw n1 n2 2=n1+n2:=rfl;rw[ht0]
   go_wp2_with (go_at_call 229;refine (rC (n1+n2) hn hm _).mono ?_;rintro e W ⟨v,rfl,hown,hbw⟩)
   obtain⟨w,rfl⟩ : ∃ w:World,w=wr:=⟨_,rfl⟩;clear cS0 cS1 ht0
   go_loopw [6,27] (fun t6 t27 wr=>∃ (x6:Value) (k:Nat),x6=t6∧k≤2∧t27=.int .i64 k∧wr.ownsRow w.heap.size 22 1 x6 (mw n1 n2 k) (ada xs1 xs2 k)∧Below w.heap.size w wr) (fun _ i _=>2 - (intOf i).toNat)
   case atStart=>exact⟨_,0,rfl,by omega,rfl,hown,hbw⟩
   case round =>
    clear hown hbw;obtain⟨x6,k,rfl,hk,rfl,hown,hbw⟩:=hrel;have hinfo:(Tryz.prog.info? 22).map (fun i=>(i.zero,i.size,i.bytes))=some (some (.int .u64 0),1,8):=by kernel_rfl
    obtain⟨i0,hi,hz0,hz1,hz2⟩:=info_parts hinfo;have hk3:k=0∨k=1∨k=2:=by omega
    rcases hk3 with rfl|rfl|rfl
    ·have c0:=(hS.below hbw lS).cell_at (i:=0) rfl;have hr:=H1.out.below rfl hbw;have e1:=E1.out;obtain⟨ho,⟨e,rfl⟩|⟨a,c',e,hlt,hc⟩⟩:=hr
     ·obtain⟨rfl,q1,q2⟩ : b1=none∧n1=0∧c1=0:=by cases e;exact⟨rfl,rfl,rfl⟩
      have hx0:Value.slice none n1 c1=.slice none 0 0:=by rw[q1,q2]
      have Q:=Lib.hid q1;clear e1 ho e q1 q2;have HX:=Lib.hid hx0;clear hx0
      go_wp2_with (at_builtin;refine wpList_append_own_none rfl _ _ 185 rfl w.heap.size 22 i0 1 Tryz.underlying185 hi x6 _ _ rfl hown HX.out ?_)
      go_roundw
      case rel=>exact⟨_,1,rfl,by omega,rfl,by simpa [mw,ada,Q.out] using hown,hbw⟩
      case measure=>simp[intOf]
     ·cases e;clear e1
      go_wp2_with (at_builtin;refine wpList_append_own _ rfl _ _ 185 rfl w.heap.size 22 i0 (.int .u64 0) 1 8 Tryz.underlying185 hi hz0 hz1 hz2 rfl (by decide) x6 _ _ rfl hown a xs1.length _ xs1 rfl (by simp) hc ho (by simp[mw,maxLen];omega) (by simp[mw];omega) hbw.size ?_;intro v' w1 hown' hgrow _)
      go_roundw
      case rel=>exact⟨_,1,rfl,by omega,rfl,by simpa [mw,ada] using hown',qE hbw.size hbw hown hgrow⟩
      case measure=>simp[intOf]
    ·have c0:=(hS.below hbw lS).cell_at (i:=1) rfl;have hr:=H2.out.below rfl hbw;have e1:=E2.out;obtain⟨ho,⟨e,rfl⟩|⟨a,c',e,hlt,hc⟩⟩:=hr
     ·obtain⟨rfl,q1,q2⟩ : b2=none∧n2=0∧c2=0:=by cases e;exact⟨rfl,rfl,rfl⟩
      have hx0:Value.slice none n2 c2=.slice none 0 0:=by rw[q1,q2]
      have Q:=Lib.hid q1;clear e1 ho e q1 q2;have HX:=Lib.hid hx0;clear hx0
      go_wp2_with (at_builtin;refine wpList_append_own_none rfl _ _ 185 rfl w.heap.size 22 i0 1 Tryz.underlying185 hi x6 _ _ rfl hown HX.out ?_)
      go_roundw
      case rel=>exact⟨_,2,rfl,by omega,rfl,by simpa [mw,ada,Q.out] using hown,hbw⟩
      case measure=>simp[intOf]
     ·cases e;clear e1
      go_wp2_with (at_builtin;refine wpList_append_own _ rfl _ _ 185 rfl w.heap.size 22 i0 (.int .u64 0) 1 8 Tryz.underlying185 hi hz0 hz1 hz2 rfl (by decide) x6 _ _ rfl hown a xs2.length _ xs2 rfl (by simp) hc ho (by simp[mw,maxLen];omega) (by simp[mw];omega) hbw.size ?_;intro v' w1 hown' hgrow _)
      go_roundw
      case rel=>exact⟨_,2,rfl,by omega,rfl,by simpa [mw,ada] using hown',qE hbw.size hbw hown hgrow⟩
      case measure=>simp[intOf]
    ·go_wp2
     go_ret
     refine⟨_,rfl,?_,hbw⟩;simpa [mw,ada] using hown
end
section
open Go.RowKit Go.Shelf
attribute [local go_sem] Oper.semAt_some
def upto {α:Type} (f:Nat→α) (k:Nat):List α:=(List.range k).map f
theorem dn {α:Type} (f:Nat→α) (k:Nat):upto f (k+1)=upto f k++[f k]:=by simp[upto,List.range_succ]
theorem ln {α:Type} (f:Nat→α) (k:Nat):(upto f k).length=k:=by simp[upto]
abbrev U64:Type:={ n:Nat // n<18446744073709551616 }
instance:Inhabited U64:=⟨⟨0,by omega⟩⟩
def ux (b c:Nat) (A B:World):Prop:=B.heap[b]?=A.heap[b]?∧B.heap[c]?=A.heap[c]?
theorem ux.refl (b c:Nat) (A:World):ux b c A A:=⟨rfl,rfl⟩
theorem ux.trans {b c:Nat} {A B C:World} (h:ux b c A B) (k:ux b c B C):ux b c A C:=⟨k.1.trans h.1,k.2.trans h.2⟩
theorem ux.cell1 {b c:Nat} {A B:World} (h:ux b c A B) (j:Nat):B.cell? ⟨b,j,none⟩=A.cell? ⟨b,j,none⟩:=World.cell?_of_block (a:=⟨b,j,none⟩) h.1
theorem ux.cell2 {b c:Nat} {A B:World} (h:ux b c A B) (j:Nat):B.cell? ⟨c,j,none⟩=A.cell? ⟨c,j,none⟩:=World.cell?_of_block (a:=⟨c,j,none⟩) h.2
theorem ux.put {b c:Nat} {w:World} (hb:b<w.heap.size) (hc:c<w.heap.size) (W:World) (l:Nat) (o o' : Obj) (hl:w.heap.size≤l) (_:W.heap[l]?=some o) (_:o.isCells=false) (_:o.isWalk=false):ux b c W (W.putObj l o') :=
 ⟨World.putObj_heap_other Om,World.putObj_heap_other Om⟩
def sI (zs:List U64) (j:Nat):Nat × U64:=(zs.length - 1 - j,zs[zs.length - 1 - j]?.getD default)
set_option maxRecDepth 100000 in
theorem nG (F:Fence) (n:Nat) (hf:F.fn 230) (hro:F.round=none) (hn:1≤n) (l Bs b cap:Nat) (zs:List U64) (hreach:zs.length≤1099511627776) (J Jx:List (Nat × U64)→World→Prop)
  (hY:∀ pre x W,J pre W→pre.length<zs.length→YieldAt F (n - 1) Tryz.prog l #[.int .i64 (x.1:Int),.int .u64 (x.2.1:Int)] W fun e W' =>
   (e=.returned (.bool true)∧J (pre++[x]) W'∧ux b Bs W W')∨(e=.returned (.bool false)∧Jx (pre++[x]) W'))
  (W:World) (hBs:W.cell? ⟨Bs,0,none⟩=some (.slice (some ⟨b,0,none⟩) zs.length cap)) (hc:∀ j,j<zs.length→W.cell? ⟨b,j,none⟩=some (.int .u64 ((zs[j]?.getD default).1:Int))) (h0:J [] W) :
  CallsIn F n Tryz.prog 230 #[.func (.yield l) #[] #[],.pointer (some ⟨Bs,0,none⟩)] W fun e W'=>(∃ v,e=.returned v) ∧
   ((∃ ys,ys=upto (sI zs) zs.length∧J ys W')∨(∃ pre,(∃ k,k≤zs.length∧pre=upto (sI zs) k)∧Jx pre W')):=by
 refine callsIn_of_wp Tryz.func230 rfl hf ?_ hro;simp only[Tryz.ntmps230,List.size_toArray,List.length_cons,List.length_nil,Nat.reduceAdd,Nat.reduceSub,Array.replicate_succ,Array.replicate_zero,List.push_toArray,List.append_toArray,List.nil_append,List.cons_append]
 gi_wp2
 gi_loopw [3] (fun i wr=>∃ k:Nat,k≤zs.length∧i=.int .i64 ((zs.length:Int) - 1 - (k:Int))∧J (upto (sI zs) k) wr∧ux b Bs W wr)
  (fun i _=>(intOf i+1).toNat)
 case atStart=>exact⟨0,Nat.zero_le _,by simp,h0,ux.refl _ _ _⟩
 case round =>
  obtain⟨k,hk,hi,hJs,hnx⟩:=hrel;have hBs':=(hnx.cell2 0).trans hBs
  by_cases hlt:k<zs.length
  ·rw[show (zs.length:Int) - 1 - (k:Int)=((zs.length - 1 - k:Nat):Int) by omega] at hi;subst hi;have hjl:zs.length - 1 - k<zs.length:=by omega
   have hcx:=(hnx.cell1 _).trans (hc _ hjl);obtain⟨fn,tmps,assign,body,hy,hR⟩:=hY _ (sI zs k) wr hJs (by rw[ln];exact hlt);have hse:=dn (sI zs) k;unfold sI at hy;dsimp only at hy;generalize hj:zs.length - 1 - k=j at *;generalize hz:zs[j]?.getD default=z at *;have hbk:sI zs k=(j,z):=by simp only[sI,hj,hz]
   have hjz:(j:Int)<(zs.length:Int):=by omega
   have hnext:(j:Int) - 1=(zs.length:Int) - 1 - ((k+1:Nat):Int):=by omega
   have HN:=Lib.hid hnext;clear hnext
   gi_wp2
   refine hR.mono ?_;rintro e W3 (⟨rfl,hJ3,hk3⟩|⟨rfl,hJx3⟩)
   ·gi_wp2
    go_roundw
    case rel=>exact⟨k+1,by omega,by rw[← HN.out],by rw[hse];exact hJ3,hnx.trans hk3⟩
    case measure=>first|(simp[intOf];done)|(simp[intOf];omega)
   ·gi_wp2
    refine bodyPost_ret (results_none rfl _ _ _) rfl ?_;exact⟨⟨_,rfl⟩,.inr ⟨_,⟨k+1,by omega,hse.symm⟩,hJx3⟩⟩
  ·obtain rfl:k=zs.length:=by omega
   rw[show (zs.length:Int) - 1 - (zs.length:Int) = -1 by omega] at hi;subst hi
   gi_wp2
   go_end0
   exact⟨⟨_,rfl⟩,.inl ⟨_,rfl,hJs⟩⟩
theorem qA (n:Nat) (hn:1≤n) (Bs b cap:Nat) (zs:List U64) (hreach:zs.length≤1099511627776) (w:World) (hBn:Bs<w.heap.size) (hb:b<w.heap.size)
  (hBs:w.cell? ⟨Bs,0,none⟩=some (.slice (some ⟨b,0,none⟩) zs.length cap)) (hc:∀ j,j<zs.length→w.cell? ⟨b,j,none⟩=some (.int .u64 ((zs[j]?.getD default).1:Int))) :
  SeqStopsK Fence.wide n Tryz.prog 230 #[.pointer (some ⟨Bs,0,none⟩)] (fun x:Nat × U64=>#[Value.int .i64 (x.1:Int),Value.int .u64 (x.2.1:Int)]) (ux b Bs) (fun ys=>ys=upto (sI zs) zs.length)
   (fun pre=>∃ k,k≤zs.length∧pre=upto (sI zs) k) zs.length w:=fun l J Jx W hW _ _ hY h0 =>
 nG Fence.wide n trivial rfl hn l Bs b cap zs hreach J Jx hY W ((hW.cell (p:=⟨Bs,0,none⟩) hBn).trans hBs) (fun j hj=>(hW.cell (p:=⟨b,j,none⟩) hb).trans (hc j hj)) h0
theorem rM (a:Option Addr) (len cap:Nat) (w:World) :
  Calls Tryz.prog 197 #[.slice a len cap] w fun e w'=>e=.returned (.func (.func 230) #[] #[.pointer (some ⟨w.heap.size,0,none⟩)])∧w'=w.alloc (.cells #[.slice a len cap] 185):=by
 go_enter Tryz.func197,Tryz.ntmps197
 go_wp2
 go_ret
 exact⟨rfl,rfl⟩
theorem mu {W W' : World} (h:Ext W W'):KeepsOthers W W':=⟨h.size,fun k o hk _=>(h.block k (Array.getElem?_eq_some_iff.1 hk).1).trans hk⟩
theorem Blk.own {A B:World} {row:Option Nat} {g:Nat} {t:TypeId} {cs:List Value} (h:Blk A g t cs) (hg:A.grownBy B row) (hr:∀ r,row=some r→∃ o:Obj,A.heap[r]?=some o∧o.isCells=false):Blk B g t cs:=by
 refine h.grown hg (fun e=>?_);obtain⟨o,h1,h2⟩:=hr g e.symm;unfold Blk at h;rw[h] at h1;cases h1;cases h2
end
section
open Go.RowKit
def bw (x y c:Nat):Nat:=if x<y+c then 1 else 0
theorem dm (x y b:Nat) (hb:b≤1) (w:World) :
  (callFunc 114 #[.int .u64 x,.int .u64 y,.int .u64 b]).run Tryz.prog w =
   .ok (.value (.tuple #[.int .u64 (((x+18446744073709551616 - y - b)%18446744073709551616:Nat):Int),.int .u64 ((bw x y b:Nat):Int)])) w:=by
 rw[run_callFunc_extern (Tryz.func114) (by kernel_rfl) (by kernel_rfl) (by kernel_rfl) (e:=sub64Entry) (by kernel_rfl),run_sub64 x y b hb];rfl
def br (a b:Nat):Nat→Nat
 | 0=>0
 | k+1=>bw (wd k a) (wd k b) (br a b k)
def sb (a b k:Nat):Nat:=(wd k a+18446744073709551616 - wd k b - br a b k)%18446744073709551616
theorem aeM (a b k:Nat):br a b k≤1:=by
 cases k with
 | zero=>exact Nat.zero_le _
 | succ k=>simp only[br,bw];split<;>omega
theorem sR (x y c:Nat) (hx:x<18446744073709551616) (hy:y<18446744073709551616) (hc:c≤1) :
  (x+18446744073709551616 - y - c)%18446744073709551616+y+c=x+18446744073709551616*(if x<y+c then 1 else 0)∧(x+18446744073709551616 - y - c)%18446744073709551616<18446744073709551616∧(if x<y+c then 1 else 0:Nat)≤1:=by
 split<;>omega
theorem acD (S A B M c:Nat) (hS:S<M) (hA:A<M) (hB:B<M) (hc:c≤1) (h:S+B=A+M*c):S=(A+M - B)%M∧c=if A<B then 1 else 0:=by
 have:c=0∨c=1:=by omega
 rcases this with rfl|rfl
 ·rw[show A+M - B=S+M by omega,Nat.add_mod_right,Nat.mod_eq_of_lt hS,if_neg Om];exact⟨rfl,rfl⟩
 ·rw[show A+M - B=S by omega,Nat.mod_eq_of_lt hS,if_pos Om];exact⟨rfl,rfl⟩
theorem fW (a b:Nat) (ha:a<zd) (hb:b<zd) (s0 s1 s2 s3 c1 c2 c3 c4:Nat)
  (e0:s0=(wd 0 a+18446744073709551616 - wd 0 b - 0)%18446744073709551616) (f0:c1=if wd 0 a<wd 0 b+0 then 1 else 0)
  (e1:s1=(wd 1 a+18446744073709551616 - wd 1 b - c1)%18446744073709551616) (f1:c2=if wd 1 a<wd 1 b+c1 then 1 else 0)
  (e2:s2=(wd 2 a+18446744073709551616 - wd 2 b - c2)%18446744073709551616) (f2:c3=if wd 2 a<wd 2 b+c2 then 1 else 0)
  (e3:s3=(wd 3 a+18446744073709551616 - wd 3 b - c3)%18446744073709551616) (f3:c4=if wd 3 a<wd 3 b+c3 then 1 else 0) :
  uX s0 s1 s2 s3=(a+zd - b)%zd∧c4=bw a b 0:=by
 have h1:=vq ha;have h2:=vq hb;have:=z7 0 a;have:=z7 1 a;have:=z7 2 a;have:=z7 3 a;have:=z7 0 b;have:=z7 1 b;have:=z7 2 b;have:=z7 3 b;generalize wd 0 a=a0 at *;generalize wd 1 a=a1 at *;generalize wd 2 a=a2 at *;generalize wd 3 a=a3 at *;generalize wd 0 b=b0 at *;generalize wd 1 b=b1 at *;generalize wd 2 b=b2 at *;generalize wd 3 b=b3 at *;obtain⟨g0,l0,m0⟩:=sR a0 b0 0 Om Om Om;rw[← e0,← f0] at g0;rw[← e0] at l0;rw[← f0] at m0;obtain⟨g1,l1,m1⟩:=sR a1 b1 c1 Om Om Om;rw[← e1,← f1] at g1;rw[← e1] at l1;rw[← f1] at m1;obtain⟨g2,l2,m2⟩:=sR a2 b2 c2 Om Om Om;rw[← e2,← f2] at g2;rw[← e2] at l2;rw[← f2] at m2;obtain⟨g3,l3,m3⟩:=sR a3 b3 c3 Om Om Om;rw[← e3,← f3] at g3;rw[← e3] at l3;rw[← f3] at m3;have key:uX s0 s1 s2 s3+b=a+zd*c4:=by
  rw[← h1,← h2];clear e0 e1 e2 e3 f0 f1 f2 f3 h1 h2 ha hb l0 l1 l2 l3 m0 m1 m2 m3;simp only[uX,zd];omega
 have hs:=mN l0 l1 l2 l3;clear e0 e1 e2 e3 f0 f1 f2 f3 h1 h2 g0 g1 g2 g3 l0 l1 l2 l3 m0 m1 m2;simp only[bw,Nat.add_zero];exact acD _ _ _ _ _ hs ha hb m3 key
def adL (a b k:Nat):List Value:=[if 0<k then .int .u64 (sb a b 0:Nat) else .int .u64 0,if 1<k then .int .u64 (sb a b 1:Nat) else .int .u64 0,if 2<k then .int .u64 (sb a b 2:Nat) else .int .u64 0,if 3<k then .int .u64 (sb a b 3:Nat) else .int .u64 0]
theorem kj (a b:Nat) {k:Nat} (h:k<4):(adL a b k)[k]?=some (.int .u64 0):=by
 have:k=0∨k=1∨k=2∨k=3:=by omega
 rcases this with rfl|rfl|rfl|rfl<;>rfl
theorem cR (a b:Nat) {k:Nat} (h:k<4):(adL a b k).set k (.int .u64 (sb a b k:Nat))=adL a b (k+1):=by
 have:k=0∨k=1∨k=2∨k=3:=by omega
 rcases this with rfl|rfl|rfl|rfl<;>rfl
set_option maxRecDepth 100000 in
theorem tm (a b:Nat) (ha:a<zd) (hbb:b<zd) (w:World) :
  Calls Tryz.prog 54 #[zj a,zj b] w fun e w'=>e=.returned (.tuple #[zj ((a+zd - b)%zd),.int .u64 ((bw a b 0:Nat):Int)])∧Below w.heap.size w w':=by
 have hA:=dm
 go_enter Tryz.func54,Tryz.ntmps54
 go_wp2;generalize hW:((w.alloc _).alloc _).alloc _=W;have hg0:Blk W w.heap.size 24 (zb a):=by subst hW;exact ((Blk.new _ _ _).alloc _).alloc _
 have hg1:Blk W (w.heap.size+1) 24 (zb b):=by subst hW;exact (Blk.new' (by simp)).alloc _
 have hg2:Blk W (w.heap.size+1+1) 24 (adL a b 0):=by subst hW;exact Blk.new' (by simp)
 have hb:Below w.heap.size w W:=by subst hW;exact (((Below.refl _ _).alloc (Nat.le_refl _) _).alloc (by simp) _).alloc (by simp;omega) _
 clear hW
 go_loopw [5,7] (fun c i wr=>∃ k:Nat,k≤4∧i=.int .i64 k∧c=.int .u64 (br a b k:Nat)∧Blk wr w.heap.size 24 (zb a)∧Blk wr (w.heap.size+1) 24 (zb b)∧Blk wr (w.heap.size+1+1) 24 (adL a b k)∧Below w.heap.size w wr) (fun _ i _=>4 - (intOf i).toNat)
 case atStart=>exact⟨0,by omega,rfl,rfl,hg0,hg1,hg2,hb⟩
 case round =>
  clear hg0 hg1 hg2 hb;obtain⟨k,hk,rfl,rfl,hg0,hg1,hg2,hb⟩:=hrel;have hc:=aeM a b k
  by_cases hlt:k<4
  ·have c0:=hg0.cell_at (yV a hlt);have c1:=hg1.cell_at (yV b hlt);have c2:=hg2.cell_at (kj a b hlt);have f2:=hg2.frozen k;go_wp2;have lt0:=hg0.lt;have lt1:=hg1.lt;have lt2:=hg2.lt;refine Kp.wp_region_kpf [11] 13 (by kernel_rfl) (by kernel_rfl) (fun L Fin hL hFin=>?_);have HL:=Lib.hid hL;clear hL;have HF:=Lib.hid hFin;clear hFin;simp only[List.take_succ_cons,List.take_zero,List.drop_succ_cons,List.drop_zero];apply Exists.intro
   repeat ((first|(apply Kp.kp_free;(first|rfl|(rw[HL.out];rfl));(intro w1;go_simp;rfl))|(apply Kp.kp_now;rfl;(first|rfl|(rw[HL.out];rfl));(intro w1 hb1;obtain⟨hcw,hfw⟩:=uu hb1;clear hb1;go_simp;rfl)));simp only[Act.put,List.setIfInBounds_toArray,List.set_cons_succ,List.set_cons_zero])
   apply Kp.kp_nil;refine HF.out _ _ (fun w1 hb1 _=>?_);clear HL HF;simp only[List.drop_succ_cons,List.drop_zero];have c3:=(hg2.below hb1 lt2).cell_at (kj a b hlt);have f3:=(hg2.below hb1 lt2).frozen k;go_wp2;refine NoPanic.normal ?_;go_wp2
   go_roundw
   case rel =>
    refine⟨k+1,by omega,by go_num,?_,(hg0.below hb1 lt0).far (by simp;omega) _,(hg1.below hb1 lt1).far (by simp) _,?_,(hb.trans (hb1.mono hb.size)).setCell (by simp;omega) _⟩
    ·simp[br]
    ·rw[← cR a b hlt];exact (hg2.below hb1 lt2).set_ k _
   case measure=>simp[intOf];omega
  ·obtain rfl:k=4:=by omega
   have d0:wr.cell? ⟨w.heap.size+1+1,0,none⟩=some (.int .u64 ((sb a b 0:Nat):Int)):=hg2.cell_at rfl;have d1:wr.cell? ⟨w.heap.size+1+1,1,none⟩=some (.int .u64 ((sb a b 1:Nat):Int)):=hg2.cell_at rfl;have d2:wr.cell? ⟨w.heap.size+1+1,2,none⟩=some (.int .u64 ((sb a b 2:Nat):Int)):=hg2.cell_at rfl;have d3:wr.cell? ⟨w.heap.size+1+1,3,none⟩=some (.int .u64 ((sb a b 3:Nat):Int)):=hg2.cell_at rfl;have ff:=hg2.frozen;clear hA;go_wp2;have hs:=fW a b ha hbb (sb a b 0) (sb a b 1) (sb a b 2) (sb a b 3) (br a b 1) (br a b 2) (br a b 3) (br a b 4) rfl rfl rfl rfl rfl rfl rfl rfl;have hlt:=fun i=>Nat.mod_lt (wd i a+18446744073709551616 - wd i b - br a b i) (show 0<18446744073709551616 by omega);have hv:=sc (hlt 0) (hlt 1) (hlt 2) (hlt 3);have ev:Value.agg #[.int .u64 ((sb a b 0:Nat):Int),.int .u64 ((sb a b 1:Nat):Int),.int .u64 ((sb a b 2:Nat):Int),.int .u64 ((sb a b 3:Nat):Int)]=zj ((a+zd - b)%zd):=by rw[← hs.1];exact hv
   refine bodyPost_ret (v:=.tuple #[zj ((a+zd - b)%zd),.int .u64 ((bw a b 0:Nat):Int)]) ?_ rfl ⟨rfl,?_⟩
   ·rw[← ev,← hs.2];simp[results,Tryz.results54,go_sem,d0,d1,d2,d3]
   ·refine ((((hb.setCell ?_ _).setCell ?_ _).setCell ?_ _).setCell ?_ _)<;>(simp;omega)
end
section
open Go.RowKit
theorem aaB (n:Nat) (h:n<18446744073709551616):n<zd:=by unfold zd;omega
theorem sj (n:Nat) (h:n<18446744073709551616):Value.agg #[.int .u64 (n:Int),.int .u64 0,.int .u64 0,.int .u64 0]=zj n:=by
 have:=sc h (by omega:0<18446744073709551616) (by omega:0<18446744073709551616) (by omega:0<18446744073709551616);simpa [uX] using this
theorem jt (n:Nat) (h:n<18446744073709551616) (w:World) :
  Calls Tryz.prog 52 #[.int .u64 (n:Int)] w fun e w'=>e=.returned (zj n)∧Below w.heap.size w w':=by
 go_enter Tryz.func52,Tryz.ntmps52
 go_wp2;refine bodyPost_ret (v:=zj n) ?_ rfl ⟨rfl,?_⟩
 ·rw[← sj n h];simp[results,Tryz.results52,go_sem]
 ·exact (Below.refl _ _).alloc (Nat.le_refl _) _
def eqN (a b:Nat):Bool:=decide (a=b)
theorem bj (n:Nat) (h:n<18446744073709551616):Tryz.prog.keyLits 1 22 [.int .u64 (n:Int)]=some [.int .u64 (n:Int)]:=by
 have hw:(Lit.int .u64 (n:Int)).wf=true:=by
  simp[Lit.wf,IntKind.min,IntKind.max,IntKind.signed,IntKind.bits];omega
 simp[Program.keyLits,Tryz.underlying22,hw]
theorem px (a:Nat):Tryz.prog.keyLits 2 24 (zb a)=some [.int .u64 ((wd 0 a:Nat):Int),.int .u64 ((wd 1 a:Nat):Int),.int .u64 ((wd 2 a:Nat):Int),.int .u64 ((wd 3 a:Nat):Int)]:=by
 have c1:Tryz.prog.cellsOf 24=4:=by kernel_rfl
 have c2:Tryz.prog.cellsOf 22=1:=by kernel_rfl
 have k:=fun i=>bj (wd i a) (z7 i a);have r:List.range 4=[0,1,2,3]:=rfl;unfold Program.keyLits;simp[Tryz.underlying24,c1,c2,r,k]
theorem qM {a b:Nat} (ha:a<zd) (hb:b<zd) (w:World) :
  (binOp .eql 24 (zj a) (zj b)).run Tryz.prog w=.ok (.bool (eqN a b)) w:=by
 obtain⟨r,hr,hiff⟩:=run_equalIn_deep (P:=Tryz.prog) 9998 2 24 (by kernel_rfl) w 2 2 (zj a) (zj b)
  [.int .u64 ((wd 0 a:Nat):Int),.int .u64 ((wd 1 a:Nat):Int),.int .u64 ((wd 2 a:Nat):Int),.int .u64 ((wd 3 a:Nat):Int)]
  [.int .u64 ((wd 0 b:Nat):Int),.int .u64 ((wd 1 b:Nat):Int),.int .u64 ((wd 2 b:Nat):Int),.int .u64 ((wd 3 b:Nat):Int)]
  (by kernel_rfl) (by kernel_rfl) (px a) (px b)
 have e:r=eqN a b:=by
  unfold eqN;rw[Bool.eq_iff_iff,hiff];simp only[decide_eq_true_eq,List.cons.injEq,Lit.int.injEq,true_and,and_true,Int.ofNat_inj];constructor
  ·rintro ⟨h0,h1,h2,h3⟩;exact aaU ha hb h0 h1 h2 h3
  ·rintro rfl;exact⟨rfl,rfl,rfl,rfl⟩
 subst e;simp only[run_eql_struct,hr,Result.andThen]
theorem zY {a b:Nat} (ha:a<zd) (hb:b<zd) (w:World) :
  (Op.equalIn 10000 24 (zj a) (zj b)).run Tryz.prog w=.ok (eqN a b) w:=by
 have:=qM ha hb w;rw[run_eql_struct] at this;cases h:(Op.equalIn 10000 24 (zj a) (zj b)).run Tryz.prog w with
 | ok r w'=>rw[h] at this;simp only[Result.andThen,Result.ok.injEq,Value.bool.injEq] at this;rw[this.1,this.2]
 | halt h' w'=>rw[h] at this;simp[Result.andThen] at this
attribute [local go_sem] zY
theorem iS {a b:Nat} (h:a=b):eqN a b=true:=by simp[eqN,h]
theorem qT {a b:Nat} (h:a≠b):eqN a b=false:=by simp[eqN,h]
def uF (a b:Nat):Int:=if a=b then 0 else if a<b then -1 else 1
theorem ft (a b:Nat) (ha:a<zd) (hb:b<zd) (w:World) :
  Calls Tryz.prog 25 #[zj a,zj b] w fun e w'=>e=.returned (.int .i64 (uF a b))∧Below w.heap.size w w':=by
 by_cases hab:a=b
 ·have he:=iS hab;have hc:uF a b=0:=by simp[uF,hab]
  clear hab
  go_enter Tryz.func25,Tryz.ntmps25
  go_wp2
  go_ret
  exact⟨by simp[hc],((Ext.rfl' w).alloc' _).alloc' _⟩
 ·have he:=qT hab
  by_cases hlt:a<b
  ·have hc:uF a b = -1:=by simp[uF,hab,hlt]
   have hbw:bw a b 0=1:=by simp[bw,hlt]
   clear hab
   go_enter Tryz.func25,Tryz.ntmps25
   go_wp2_with (go_at_call 54;refine (tm a b ha hb _).mono ?_;rintro e w1 ⟨rfl,hb1⟩)
   go_ret
   exact⟨by simp[hc],(((((Ext.rfl' w).alloc' _).alloc' _).trans' hb1).alloc' _)⟩
  ·have hc:uF a b=1:=by simp[uF,hab,hlt]
   have hbw:bw a b 0=0:=by simp[bw,hlt]
   clear hab
   go_enter Tryz.func25,Tryz.ntmps25
   go_wp2_with (go_at_call 54;refine (tm a b ha hb _).mono ?_;rintro e w1 ⟨rfl,hb1⟩)
   go_ret
   exact⟨by simp[hc],(((((Ext.rfl' w).alloc' _).alloc' _).trans' hb1).alloc' _)⟩
end
end Go.Proofs.YtiiefkchpicncaaGreatDoor
