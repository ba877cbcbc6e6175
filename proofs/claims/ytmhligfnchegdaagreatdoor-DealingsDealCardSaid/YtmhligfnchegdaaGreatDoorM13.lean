/- Part 13 of the proof: SxU, Mem, Grow, Shelf, LimA, Conc, Back -/
import Derived.Test.YtmhligfnchegdaaGreatDoorM12
import Derived.Test.YtmhligfnchegdaaGreatDoorM11
import Derived.Test.YtmhligfnchegdaaGreatDoorM07
import Derived.Test.YtmhligfnchegdaaGreatDoorM03
import Derived.WalkKit
import Derived.Lib.Hide
import Derived.Deep.Draws
import Derived.Laws.Rows
import Derived.Lib.AppendZeros
import Derived.Lib.AppendZerosOnto
import Derived.Lib.Walk
import Derived.Lib.SliceRun
import Derived.OwnWalk
import Derived.Test.YtmhligfnchegdaaGreatDoorProg
import Derived.Shelf.Small.Bits
import Derived.Shelf.Strconv.Itoa0
import Derived.Shelf.Bits.Mul64
import Derived.StillTailTactics
import Derived.BigQuiet
import Derived.Deep.QuietTactic
import Derived.Deep.RegionHeld3
import Derived.Deep.LoopGhost
import Derived.Shelf.Spec.BitsCarry
import Derived.Handy
import Derived.Laws.AppendOwnNone
import Derived.RangeFuncNested
import Derived.RangeFuncBound
import Derived.RangeFuncCalls
import Derived.RangeFuncBox
import Derived.RangeFuncLeaves
import Derived.RangeFuncFrom
import Derived.Shelf.Abstract
import Derived.Shelf.RegionOpen
import Derived.OwnWalkIn
import Derived.TacticsInMore
import Derived.LoopNIn
import Derived.LoopIn
set_option linter.unusedSimpArgs false
set_option linter.unusedVariables false
namespace Go.Proofs.YtmhligfnchegdaaGreatDoor
open Go Go.RowKit
namespace Sx
instance:Cal Tryz.prog 266:=⟨fun _ _=>by kernel_rfl⟩
instance:Cal Tryz.prog 267:=⟨fun _ _=>by kernel_rfl⟩
instance:Cal Tryz.prog 274:=⟨fun _ _=>by kernel_rfl⟩
end Sx
end Go.Proofs.YtmhligfnchegdaaGreatDoor
namespace Go.Proofs.YtmhligfnchegdaaGreatDoor
open Go.RowKit
def Blk (w:World) (g:Nat) (t:TypeId) (cs:List Value):Prop:=w.heap[g]?=some (.cells cs.toArray t (0,0))
section
variable {w w' : World} {g:Nat} {t:TypeId} {cs:List Value}
theorem Blk.lt (h:Blk w g t cs):g<w.heap.size:=by
  rcases Nat.lt_or_ge g w.heap.size with hlt|hge
  · exact hlt
  · unfold Blk at h;rw[Array.getElem?_eq_none hge] at h;cases h
theorem Blk.cell (h:Blk w g t cs) (i:Nat):w.cell? ⟨g,i,none⟩=cs[i]?:=by
  rw[cell_of_row w g i cs.toArray t (0,0) h];simp
theorem Blk.cell_at (h:Blk w g t cs) {i:Nat} {v:Value} (hv:cs[i]?=some v):w.cell? ⟨g,i,none⟩=some v:=(h.cell i).trans hv
theorem Blk.frozen (h:Blk w g t cs) (i:Nat):w.frozen? ⟨g,i,none⟩=false:=by
  unfold Blk at h
  simp[World.frozen?,h]
theorem Blk.new (w:World) (t:TypeId) (cs:List Value):Blk (w.alloc (.cells cs.toArray t)) w.heap.size t cs:=heap_alloc_new w _
theorem Blk.new' {t:TypeId} {cs:List Value} (h:w.heap.size=g):Blk (w.alloc (.cells cs.toArray t)) g t cs:=h ▸ Blk.new w t cs
theorem Blk.drew (h:Blk w g t cs):Blk w.drew g t cs:=h
theorem Blk.drewN (h:Blk w g t cs) (n:Nat):Blk (w.drewN n) g t cs:=h
theorem Blk.alloc (h:Blk w g t cs) (o:Obj):Blk (w.alloc o) g t cs:=(Below.heap_alloc w o g h.lt).trans h
theorem Blk.set_ (h:Blk w g t cs) (i:Nat) (u:Value):Blk (w.setCell ⟨g,i,none⟩ u) g t (cs.set i u):=by
  unfold Blk at h ⊢
  simp[World.setCell,Array.getElem?_modify,h]
theorem Blk.put4 {a b c d:Value} (h:Blk w g t [a,b,c,d]) (u0 u1 u2 u3:Value) :
    Blk ((((w.setCell ⟨g,0,none⟩ u0).setCell ⟨g,1,none⟩ u1).setCell ⟨g,2,none⟩ u2).setCell ⟨g,3,none⟩ u3) g t [u0,u1,u2,u3]:=(((h.set_ 0 u0).set_ 1 u1).set_ 2 u2).set_ 3 u3
theorem Blk.far (h:Blk w g t cs) {p:Addr} (hp:g≠p.block) (u:Value):Blk (w.setCell p u) g t cs:=(Below.heap_setCell w p u g hp).trans h
theorem Blk.below {B:Nat} (h:Blk w g t cs) (hb:Below B w w') (hg:g<B):Blk w' g t cs:=(hb.block g hg).trans h
theorem Blk.grown {row:Option Nat} (h:Blk w g t cs) (hb:w.grownBy w' row) (hg:some g≠row):Blk w' g t cs:=(hb.block g h.lt hg).trans h
end
theorem bcell {B:Nat} {W w1:World} (hb:Below B W w1):(∀ b o,b<B→w1.cell? ⟨b,o,none⟩=W.cell? ⟨b,o,none⟩)∧(∀ b o,b<B→w1.frozen? ⟨b,o,none⟩=W.frozen? ⟨b,o,none⟩) :=
  ⟨fun b o h=>hb.cell (p:=⟨b,o,none⟩) h,fun b o h=>hb.frozen (p:=⟨b,o,none⟩) h⟩
abbrev Ext (w w' : World):Prop:=Below w.heap.size w w'
theorem Ext.rfl' (w:World):Ext w w:=Below.refl _ _
theorem Ext.trans' {a b c:World} (h:Ext a b) (k:Ext b c):Ext a c:=h.trans (k.mono h.size)
theorem Ext.alloc' {a b:World} (h:Ext a b) (o:Obj):Ext a (b.alloc o):=h.alloc h.size o
theorem Below.drewN' {B:Nat} {a w:World} (h:Below B a w) (n:Nat):Below B a (w.drewN n):=⟨h.os,h.tape,h.output,h.size,h.block⟩
end Go.Proofs.YtmhligfnchegdaaGreatDoor
namespace Go.Proofs.YtmhligfnchegdaaGreatDoor
open Go.RowKit
set_option maxRecDepth 100000 in
set_option maxHeartbeats 1000000 in
theorem slices_Grow_u64 (n:Nat) (h0:0<n) (hn:n≤1099511627776) (w:World) :
    Calls Tryz.prog 269 #[.slice none 0 0,.int .i64 (n:Int)] w fun e w'=>∃ v,e=.returned v∧w'.ownsRow w.heap.size 22 1 v 0 []∧Below w.heap.size w w':=by
  have hinfo:(Tryz.prog.info? 22).map (fun i=>(i.zero,i.size,i.bytes))=some (some (.int .u64 0),1,8):=by kernel_rfl
  obtain⟨i0,hi,hz0,hz1,hz2⟩:=info_parts hinfo
  have hr:=fun ty=>Lib.run_append_nil_zeros (P:=Tryz.prog) w 266 3 ty 22 i0 (.int .u64 0) .i64 .i64 Tryz.underlying266 Tryz.underlying3 hi hz0 n h0 (by omega) (by omega) (by rw[hz2];omega)
  have hge:=grownCap_ge w n 0 22
  have hml:=grownCap_le_maxLen w n 0 22 (by simp[maxLen];omega)
  generalize grownCap w n 0 22=G at *
  have hG63:G≤9223372036854775807:=by unfold maxLen at hml;omega
  have HM:=Lib.hid hml
  clear hml
  go_enter Tryz.func269,Tryz.ntmps269
  go_wp2_with (at_builtin;refine Lib.wpList_append_run _ rfl _ _ _ _ rfl _ _ rfl rfl _ _ (hr _) ?_)
  go_ret
  refine⟨_,rfl,?_,(Below.refl _ _).drew.alloc (Nat.le_refl _) _⟩
  refine⟨rfl,.inr ⟨w.heap.size,_,_,rfl,Nat.le_refl _,heap_alloc_new w.drew _,by omega,HM.out,?_,by simp⟩⟩
  rw[Array.size_append,size_zeroCells,size_zeroCells]
  show n*1+(G - n)*1=G*1
  omega
end Go.Proofs.YtmhligfnchegdaaGreatDoor
namespace Go.Proofs
open Go.Shelf
def Tryz.lays134_ren:Go.Shelf.Ren:=⟨fun|134=>264|129=>229|n=>n,fun|53=>22|3=>3|4=>4|46=>275|5=>5|9=>9|n=>n,fun|n=>n⟩
theorem Tryz.lays134:Go.Proofs.Lays.n134 Tryz.prog Tryz.lays134_ren:={
  mixed:=by kernel_rfl
  f129:=Tryz.func229.trans (congrArg some (by kernel_rfl))
  f134:=Tryz.func264.trans (congrArg some (by kernel_rfl))
  t3:=Tryz.underlying3
  a3:=Tryz.isAgg3
  z3:=Tryz.sizeOf3
  v3:=Tryz.zeroValue3
  t4:=Tryz.underlying4
  a4:=Tryz.isAgg4
  z4:=Tryz.sizeOf4
  v4:=Tryz.zeroValue4
  t5:=Tryz.underlying5
  a5:=Tryz.isAgg5
  z5:=Tryz.sizeOf5
  v5:=Tryz.zeroValue5
  t9:=Tryz.underlying9
  a9:=Tryz.isAgg9
  z9:=Tryz.sizeOf9
  v9:=Tryz.zeroValue9
  t46:=Tryz.underlying275
  a46:=Tryz.isAgg275
  z46:=Tryz.sizeOf275
  v46:=Tryz.zeroValue275
  t53:=Tryz.underlying22
  a53:=Tryz.isAgg22
  z53:=Tryz.sizeOf22
  v53:=Tryz.zeroValue22 }
theorem Tryz.bits_LeadingZeros64 (x:Int) (w:World) (h0:0≤x) (h1:x≤18446744073709551615) :
    Calls Tryz.prog 264 #[.int .u64 x] w fun e w'=>e=.returned (.int .i64 (64 - (Lib.bitLen x.toNat:Int)))∧w'=w:=Any.bits_LeadingZeros64 Tryz.lays134 x w h0 h1
def Tryz.lays129_ren:Go.Shelf.Ren:=⟨fun|129=>229|n=>n,fun|53=>22|3=>3|4=>4|46=>275|5=>5|9=>9|n=>n,fun|n=>n⟩
theorem Tryz.lays129:Go.Proofs.Lays.n129 Tryz.prog Tryz.lays129_ren:={
  mixed:=by kernel_rfl
  f129:=Tryz.func229.trans (congrArg some (by kernel_rfl))
  t3:=Tryz.underlying3
  a3:=Tryz.isAgg3
  z3:=Tryz.sizeOf3
  v3:=Tryz.zeroValue3
  t4:=Tryz.underlying4
  a4:=Tryz.isAgg4
  z4:=Tryz.sizeOf4
  v4:=Tryz.zeroValue4
  t5:=Tryz.underlying5
  a5:=Tryz.isAgg5
  z5:=Tryz.sizeOf5
  v5:=Tryz.zeroValue5
  t9:=Tryz.underlying9
  a9:=Tryz.isAgg9
  z9:=Tryz.sizeOf9
  v9:=Tryz.zeroValue9
  t46:=Tryz.underlying275
  a46:=Tryz.isAgg275
  z46:=Tryz.sizeOf275
  v46:=Tryz.zeroValue275
  t53:=Tryz.underlying22
  a53:=Tryz.isAgg22
  z53:=Tryz.sizeOf22
  v53:=Tryz.zeroValue22 }
theorem Tryz.bits_Len64 (x:Int) (w:World) (h0:0≤x) (h1:x≤18446744073709551615) :
    Calls Tryz.prog 229 #[.int .u64 x] w fun e w'=>e=.returned (.int .i64 (Lib.bitLen x.toNat))∧w'=w:=Any.bits_Len64 Tryz.lays129 x w h0 h1
def Tryz.lays264_ren:Go.Shelf.Ren:=⟨fun|264=>233|n=>n,fun|53=>22|46=>275|n=>n,fun|n=>n⟩
theorem Tryz.lays264:Go.Proofs.Lays.n264 Tryz.prog Tryz.lays264_ren:={
  mixed:=by kernel_rfl
  f264:=Tryz.func233.trans (congrArg some (by kernel_rfl))
  t46:=Tryz.underlying275
  a46:=Tryz.isAgg275
  z46:=Tryz.sizeOf275
  v46:=Tryz.zeroValue275
  t53:=Tryz.underlying22
  a53:=Tryz.isAgg22
  z53:=Tryz.sizeOf22
  v53:=Tryz.zeroValue22 }
open Go.RowKit Go.Lib in
theorem Tryz.bits_Mul64 (x y:Nat) (hx:x<18446744073709551616) (hy:y<18446744073709551616) (w:World) :
    Calls Tryz.prog 233 #[.int .u64 x,.int .u64 y] w fun e w'=>e=.returned (.tuple #[.int .u64 ((x*y / 18446744073709551616:Nat):Int),.int .u64 ((x*y%18446744073709551616:Nat):Int)])∧w'=w:=Any.bits_Mul64 Tryz.lays264 x y hx hy w
end Go.Proofs
namespace Go.Proofs.YtmhligfnchegdaaGreatDoor
open Go.RowKit
theorem run_Add64 (x y c:Nat) (hc:c≤1) (w:World) :
    (callFunc 268 #[.int .u64 x,.int .u64 y,.int .u64 c]).run Tryz.prog w =
      .ok (.value (.tuple #[.int .u64 (((x+y+c)%18446744073709551616:Nat):Int),.int .u64 (((x+y+c) / 18446744073709551616:Nat):Int)])) w:=by
  rw[run_callFunc_extern (Tryz.func268) (by kernel_rfl) (by kernel_rfl) (by kernel_rfl) (e:=add64Entry) (by kernel_rfl),run_add64 x y c (by omega) (by omega) (by omega) (by omega)]
  simp only[Result.andThen]
  congr 5<;>omega
def cy (a b:Nat):Nat→Nat
  | 0=>0
  | k+1=>(wd k a+wd k b+cy a b k) / 18446744073709551616
def sw (a b k:Nat):Nat:=(wd k a+wd k b+cy a b k)%18446744073709551616
theorem cy_le (a b k:Nat):cy a b k≤1:=by
  induction k with
  | zero=>exact Nat.zero_le _
  | succ k ih=>have:=wd_lt k a;have:=wd_lt k b;simp only[cy];omega
def u64 (n:Nat):Value:=.int .u64 ((n:Nat):Int)
def sumC (a b k:Nat):List Value:=[if 0<k then .int .u64 (sw a b 0:Nat) else .int .u64 0,if 1<k then .int .u64 (sw a b 1:Nat) else .int .u64 0,if 2<k then .int .u64 (sw a b 2:Nat) else .int .u64 0,if 3<k then .int .u64 (sw a b 3:Nat) else .int .u64 0]
theorem numC_get (a:Nat) {k:Nat} (h:k<4):(numC a)[k]?=some (.int .u64 (wd k a:Nat)):=by
  have:k=0∨k=1∨k=2∨k=3:=by omega
  rcases this with rfl|rfl|rfl|rfl<;>rfl
theorem sumC_get (a b:Nat) {k:Nat} (h:k<4):(sumC a b k)[k]?=some (.int .u64 0):=by
  have:k=0∨k=1∨k=2∨k=3:=by omega
  rcases this with rfl|rfl|rfl|rfl<;>rfl
theorem sumC_set (a b:Nat) {k:Nat} (h:k<4):(sumC a b k).set k (.int .u64 (sw a b k:Nat))=sumC a b (k+1):=by
  have:k=0∨k=1∨k=2∨k=3:=by omega
  rcases this with rfl|rfl|rfl|rfl<;>rfl
set_option maxRecDepth 100000 in
theorem limbs_Add (a b:Nat) (ha:a<B256) (hbb:b<B256) (w:World) :
    Calls Tryz.prog 239 #[numV a,numV b] w fun e w'=>e=.returned (.tuple #[numV ((a+b)%B256),.int .u64 (((a+b) / B256:Nat):Int)])∧Below w.heap.size w w':=by
  have hA:=run_Add64
  go_enter Tryz.func239,Tryz.ntmps239
  go_wp2
  generalize hW:((w.alloc _).alloc _).alloc _=W
  have hg0:Blk W w.heap.size 24 (numC a):=by subst hW;exact ((Blk.new _ _ _).alloc _).alloc _
  have hg1:Blk W (w.heap.size+1) 24 (numC b):=by subst hW;exact (Blk.new' (by simp)).alloc _
  have hg2:Blk W (w.heap.size+1+1) 24 (sumC a b 0):=by subst hW;exact Blk.new' (by simp)
  have hb:Below w.heap.size w W:=by subst hW;exact (((Below.refl _ _).alloc (Nat.le_refl _) _).alloc (by simp) _).alloc (by simp;omega) _
  clear hW
  go_loopw [5,7] (fun c i wr=>∃ k:Nat,k≤4∧i=.int .i64 k∧c=.int .u64 (cy a b k:Nat)∧Blk wr w.heap.size 24 (numC a)∧Blk wr (w.heap.size+1) 24 (numC b)∧Blk wr (w.heap.size+1+1) 24 (sumC a b k)∧Below w.heap.size w wr) (fun _ i _=>4 - (intOf i).toNat)
  case atStart=>exact⟨0,by omega,rfl,rfl,hg0,hg1,hg2,hb⟩
  case round =>
    clear hg0 hg1 hg2 hb
    obtain⟨k,hk,rfl,rfl,hg0,hg1,hg2,hb⟩:=hrel
    have hc:=cy_le a b k
    by_cases hlt:k<4
    · have c0:=hg0.cell_at (numC_get a hlt)
      have c1:=hg1.cell_at (numC_get b hlt)
      have c2:=hg2.cell_at (sumC_get a b hlt)
      have f2:=hg2.frozen k
      go_wp2
      have lt0:=hg0.lt
      have lt1:=hg1.lt
      have lt2:=hg2.lt
      refine Kp.wp_region_kpf [11] 13 (by kernel_rfl) (by kernel_rfl) (fun L Fin hL hFin=>?_)
      have HL:=Lib.hid hL;clear hL
      have HF:=Lib.hid hFin;clear hFin
      simp only[List.take_succ_cons,List.take_zero,List.drop_succ_cons,List.drop_zero]
      apply Exists.intro
      repeat ((first|(apply Kp.kp_free;(first|rfl|(rw[HL.out];rfl));(intro w1;go_simp;rfl))|(apply Kp.kp_now;rfl;(first|rfl|(rw[HL.out];rfl));(intro w1 hb1;obtain⟨hcw,hfw⟩:=bcell hb1;clear hb1;go_simp;rfl)));simp only[Act.put,List.setIfInBounds_toArray,List.set_cons_succ,List.set_cons_zero])
      apply Kp.kp_nil
      refine HF.out _ _ (fun w1 hb1 _=>?_)
      clear HL HF
      simp only[List.drop_succ_cons,List.drop_zero]
      have c3:=(hg2.below hb1 lt2).cell_at (sumC_get a b hlt)
      have f3:=(hg2.below hb1 lt2).frozen k
      go_wp2
      refine NoPanic.normal ?_
      go_wp2
      go_roundw
      case rel =>
        refine⟨k+1,by omega,by go_num,?_,(hg0.below hb1 lt0).far (by simp;omega) _,(hg1.below hb1 lt1).far (by simp) _,?_,(hb.trans (hb1.mono hb.size)).setCell (by simp;omega) _⟩
        · simp[cy]
        · rw[← sumC_set a b hlt]
          exact (hg2.below hb1 lt2).set_ k _
      case measure=>simp[intOf];omega
    · obtain rfl:k=4:=by omega
      have d0:wr.cell? ⟨w.heap.size+1+1,0,none⟩=some (.int .u64 ((sw a b 0:Nat):Int)):=hg2.cell_at rfl
      have d1:wr.cell? ⟨w.heap.size+1+1,1,none⟩=some (.int .u64 ((sw a b 1:Nat):Int)):=hg2.cell_at rfl
      have d2:wr.cell? ⟨w.heap.size+1+1,2,none⟩=some (.int .u64 ((sw a b 2:Nat):Int)):=hg2.cell_at rfl
      have d3:wr.cell? ⟨w.heap.size+1+1,3,none⟩=some (.int .u64 ((sw a b 3:Nat):Int)):=hg2.cell_at rfl
      have ff:=hg2.frozen
      clear hA
      go_wp2
      have hs:=add_words a b ha hbb (sw a b 0) (sw a b 1) (sw a b 2) (sw a b 3) (cy a b 1) (cy a b 2) (cy a b 3) (cy a b 4) (by simp[sw,cy]) (by simp[cy]) rfl rfl rfl rfl rfl rfl
      have hlt:=fun i=>Nat.mod_lt (wd i a+wd i b+cy a b i) (show 0<18446744073709551616 by omega)
      have hv:=numV_of (hlt 0) (hlt 1) (hlt 2) (hlt 3)
      have ev:Value.agg #[.int .u64 ((sw a b 0:Nat):Int),.int .u64 ((sw a b 1:Nat):Int),.int .u64 ((sw a b 2:Nat):Int),.int .u64 ((sw a b 3:Nat):Int)]=numV ((a+b)%B256):=by rw[← hs.1];exact hv
      refine bodyPost_ret (v:=.tuple #[numV ((a+b)%B256),.int .u64 (((a+b) / B256:Nat):Int)]) ?_ rfl ⟨rfl,?_⟩
      · rw[← ev,← hs.2]
        simp[results,Tryz.results239,go_sem,d0,d1,d2,d3]
      · refine ((((hb.setCell ?_ _).setCell ?_ _).setCell ?_ _).setCell ?_ _)<;>(simp;omega)
end Go.Proofs.YtmhligfnchegdaaGreatDoor
namespace Go.Proofs.YtmhligfnchegdaaGreatDoor
open Go.RowKit
def Rd (w:World) (v:Value) (xs:List Value):Prop :=
  (∀ u∈xs,u.oneCell'=true)∧((v=.slice none 0 0∧xs=[])∨∃ (a:Addr) (c:Nat),v=.slice (some a) xs.length c∧a.block<w.heap.size∧∀ j u,xs[j]?=some u→w.cell? (a.add j)=some u)
theorem add_block (a:Addr) (j:Nat):(a.add j).block=a.block:=by unfold Addr.add;split<;>rfl
theorem Rd.below {w w' : World} {v:Value} {xs:List Value} {B:Nat} (h:Rd w v xs) (hB:w.heap.size=B) (hb:Below B w w'):Rd w' v xs:=by
  subst hB
  obtain⟨h1,h2|⟨a,c,h2,h3,h4⟩⟩:=h
  · exact⟨h1,.inl h2⟩
  · exact⟨h1,.inr ⟨a,c,h2,Nat.lt_of_lt_of_le h3 hb.size,fun j u hj=>(hb.cell (p:=a.add j) (by rw[add_block];exact h3)).trans (h4 j u hj)⟩⟩
def totN (n1 n2 k:Nat):Nat:=if k=0 then 0 else if k=1 then n1 else n1+n2
def catN (xs1 xs2:List Value) (k:Nat):List Value:=if k=0 then [] else if k=1 then xs1 else xs1++xs2
theorem owns_below {B:Nat} {w0 w w' : World} {e:TypeId} {size n:Nat} {v:Value} {xs:List Value} (hB:B≤w.heap.size) (hb:Below B w0 w) (h:w.ownsRow B e size v n xs) (hg:w.grownBy w' v.ownBlock):Below B w0 w':=by
  refine hb.grown hg hB (fun k e=>?_)
  rcases h.2 with ⟨rfl,_⟩|⟨g,cap,cur,rfl,hB,_⟩
  · cases e
  · cases e;exact hB
set_option maxRecDepth 100000 in
set_option maxHeartbeats 1000000 in
theorem slices_Concat_u64 (v1 v2:Value) (xs1 xs2:List Value) (S c:Nat) (w:World) (h1:Rd w v1 xs1) (h2:Rd w v2 xs2) (hS:Blk w S 266 [v1,v2]) (hn:0<xs1.length+xs2.length) (hm:xs1.length+xs2.length≤1099511627776) :
    Calls Tryz.prog 242 #[.slice (some ⟨S,0,none⟩) 2 c] w fun e w' =>
      ∃ v,e=.returned v∧w'.ownsRow w.heap.size 22 1 v (xs1.length+xs2.length) (xs1++xs2)∧Below w.heap.size w w':=by
  have hb1:∃ b n c,v1=.slice b n c∧n=xs1.length:=by
    obtain⟨_,⟨rfl,rfl⟩|⟨a,c,rfl,_⟩⟩:=h1
    · exact⟨_,_,_,rfl,rfl⟩
    · exact⟨_,_,_,rfl,rfl⟩
  have hb2:∃ b n c,v2=.slice b n c∧n=xs2.length:=by
    obtain⟨_,⟨rfl,rfl⟩|⟨a,c,rfl,_⟩⟩:=h2
    · exact⟨_,_,_,rfl,rfl⟩
    · exact⟨_,_,_,rfl,rfl⟩
  obtain⟨b1,n1,c1,rfl,e1⟩:=hb1
  obtain⟨b2,n2,c2,rfl,e2⟩:=hb2
  rw[← e1,← e2] at hn hm ⊢
  have lS:=hS.lt
  have cS0:=hS.cell_at (i:=0) rfl
  have cS1:=hS.cell_at (i:=1) rfl
  have H1:=Lib.hid h1;have H2:=Lib.hid h2;have E1:=Lib.hid e1;have E2:=Lib.hid e2
  clear h1 h2 e1 e2
  go_enter Tryz.func242,Tryz.ntmps242
  go_wp2
  go_loopw [3,11] (fun t3 t11 wr=>∃ k:Nat,k≤2∧t11=.int .i64 k∧t3=.int .i64 (totN n1 n2 k:Nat)∧wr=w) (fun _ i _=>2 - (intOf i).toNat)
  case atStart=>exact⟨0,by omega,rfl,rfl,rfl⟩
  case round =>
    obtain⟨k,hk,rfl,rfl,rfl⟩:=hrel
    have hk3:k=0∨k=1∨k=2:=by omega
    rcases hk3 with rfl|rfl|rfl
    · have ht0:totN n1 n2 0=0:=rfl
      rw[ht0]
      go_wp2
      go_roundw
      case rel=>exact⟨1,by omega,rfl,by simp[totN],trivial⟩
      case measure=>simp[intOf]
    · have ht0:totN n1 n2 1=n1:=rfl
      rw[ht0]
      go_wp2
      go_roundw
      case rel=>exact⟨2,by omega,rfl,by simp[totN],trivial⟩
      case measure=>simp[intOf]
    · have ht0:totN n1 n2 2=n1+n2:=rfl
      rw[ht0]
      go_wp2_with (go_at_call 269;refine (slices_Grow_u64 (n1+n2) hn hm _).mono ?_;rintro e W ⟨v,rfl,hown,hbw⟩)
      obtain⟨w,rfl⟩ : ∃ w:World,w=wr:=⟨_,rfl⟩
      clear cS0 cS1 ht0
      go_loopw [6,27] (fun t6 t27 wr=>∃ (x6:Value) (k:Nat),x6=t6∧k≤2∧t27=.int .i64 k∧wr.ownsRow w.heap.size 22 1 x6 (totN n1 n2 k) (catN xs1 xs2 k)∧Below w.heap.size w wr) (fun _ i _=>2 - (intOf i).toNat)
      case atStart=>exact⟨_,0,rfl,by omega,rfl,hown,hbw⟩
      case round =>
        clear hown hbw
        obtain⟨x6,k,rfl,hk,rfl,hown,hbw⟩:=hrel
        have hinfo:(Tryz.prog.info? 22).map (fun i=>(i.zero,i.size,i.bytes))=some (some (.int .u64 0),1,8):=by kernel_rfl
        obtain⟨i0,hi,hz0,hz1,hz2⟩:=info_parts hinfo
        have hk3:k=0∨k=1∨k=2:=by omega
        rcases hk3 with rfl|rfl|rfl
        · have c0:=(hS.below hbw lS).cell_at (i:=0) rfl
          have hr:=H1.out.below rfl hbw
          have e1:=E1.out
          obtain⟨ho,⟨e,rfl⟩|⟨a,c',e,hlt,hc⟩⟩:=hr
          · obtain⟨rfl,q1,q2⟩ : b1=none∧n1=0∧c1=0:=by cases e;exact⟨rfl,rfl,rfl⟩
            have hx0:Value.slice none n1 c1=.slice none 0 0:=by rw[q1,q2]
            have Q:=Lib.hid q1
            clear e1 ho e q1 q2
            have HX:=Lib.hid hx0;clear hx0
            go_wp2_with (at_builtin;refine wpList_append_own_none rfl _ _ 266 rfl w.heap.size 22 i0 1 Tryz.underlying266 hi x6 _ _ rfl hown HX.out ?_)
            go_roundw
            case rel=>exact⟨_,1,rfl,by omega,rfl,by simpa [totN,catN,Q.out] using hown,hbw⟩
            case measure=>simp[intOf]
          · cases e
            clear e1
            go_wp2_with (at_builtin;refine wpList_append_own _ rfl _ _ 266 rfl w.heap.size 22 i0 (.int .u64 0) 1 8 Tryz.underlying266 hi hz0 hz1 hz2 rfl (by decide) x6 _ _ rfl hown a xs1.length _ xs1 rfl (by simp) hc ho (by simp[totN,maxLen];omega) (by simp[totN];omega) hbw.size ?_;intro v' w1 hown' hgrow _)
            go_roundw
            case rel=>exact⟨_,1,rfl,by omega,rfl,by simpa [totN,catN] using hown',owns_below hbw.size hbw hown hgrow⟩
            case measure=>simp[intOf]
        · have c0:=(hS.below hbw lS).cell_at (i:=1) rfl
          have hr:=H2.out.below rfl hbw
          have e1:=E2.out
          obtain⟨ho,⟨e,rfl⟩|⟨a,c',e,hlt,hc⟩⟩:=hr
          · obtain⟨rfl,q1,q2⟩ : b2=none∧n2=0∧c2=0:=by cases e;exact⟨rfl,rfl,rfl⟩
            have hx0:Value.slice none n2 c2=.slice none 0 0:=by rw[q1,q2]
            have Q:=Lib.hid q1
            clear e1 ho e q1 q2
            have HX:=Lib.hid hx0;clear hx0
            go_wp2_with (at_builtin;refine wpList_append_own_none rfl _ _ 266 rfl w.heap.size 22 i0 1 Tryz.underlying266 hi x6 _ _ rfl hown HX.out ?_)
            go_roundw
            case rel=>exact⟨_,2,rfl,by omega,rfl,by simpa [totN,catN,Q.out] using hown,hbw⟩
            case measure=>simp[intOf]
          · cases e
            clear e1
            go_wp2_with (at_builtin;refine wpList_append_own _ rfl _ _ 266 rfl w.heap.size 22 i0 (.int .u64 0) 1 8 Tryz.underlying266 hi hz0 hz1 hz2 rfl (by decide) x6 _ _ rfl hown a xs2.length _ xs2 rfl (by simp) hc ho (by simp[totN,maxLen];omega) (by simp[totN];omega) hbw.size ?_;intro v' w1 hown' hgrow _)
            go_roundw
            case rel=>exact⟨_,2,rfl,by omega,rfl,by simpa [totN,catN] using hown',owns_below hbw.size hbw hown hgrow⟩
            case measure=>simp[intOf]
        · go_wp2
          go_ret
          refine⟨_,rfl,?_,hbw⟩
          simpa [totN,catN] using hown
end Go.Proofs.YtmhligfnchegdaaGreatDoor
namespace Go.Proofs.YtmhligfnchegdaaGreatDoor
open Go.RowKit Go.Shelf
attribute [local go_sem] Oper.semAt_some
def upto {α:Type} (f:Nat→α) (k:Nat):List α:=(List.range k).map f
theorem upto_succ {α:Type} (f:Nat→α) (k:Nat):upto f (k+1)=upto f k++[f k]:=by simp[upto,List.range_succ]
theorem upto_length {α:Type} (f:Nat→α) (k:Nat):(upto f k).length=k:=by simp[upto]
abbrev U64:Type:={ n:Nat // n<18446744073709551616 }
instance:Inhabited U64:=⟨⟨0,by omega⟩⟩
def Keep2 (b c:Nat) (A B:World):Prop:=B.heap[b]?=A.heap[b]?∧B.heap[c]?=A.heap[c]?
theorem Keep2.refl (b c:Nat) (A:World):Keep2 b c A A:=⟨rfl,rfl⟩
theorem Keep2.trans {b c:Nat} {A B C:World} (h:Keep2 b c A B) (k:Keep2 b c B C):Keep2 b c A C:=⟨k.1.trans h.1,k.2.trans h.2⟩
theorem Keep2.cell1 {b c:Nat} {A B:World} (h:Keep2 b c A B) (j:Nat):B.cell? ⟨b,j,none⟩=A.cell? ⟨b,j,none⟩:=World.cell?_of_block (a:=⟨b,j,none⟩) h.1
theorem Keep2.cell2 {b c:Nat} {A B:World} (h:Keep2 b c A B) (j:Nat):B.cell? ⟨c,j,none⟩=A.cell? ⟨c,j,none⟩:=World.cell?_of_block (a:=⟨c,j,none⟩) h.2
theorem Keep2.put {b c:Nat} {w:World} (hb:b<w.heap.size) (hc:c<w.heap.size) (W:World) (l:Nat) (o o' : Obj) (hl:w.heap.size≤l) (_:W.heap[l]?=some o) (_:o.isCells=false) (_:o.isWalk=false):Keep2 b c W (W.putObj l o') :=
  ⟨World.putObj_heap_other (by omega),World.putObj_heap_other (by omega)⟩
def backF (zs:List U64) (j:Nat):Nat × U64:=(zs.length - 1 - j,zs[zs.length - 1 - j]?.getD default)
set_option maxRecDepth 100000 in
set_option maxHeartbeats 2000000 in
theorem backward1_in (F:Fence) (n:Nat) (hf:F.fn 270) (hro:F.round=none) (hn:1≤n) (l Bs b cap:Nat) (zs:List U64) (hreach:zs.length≤1099511627776) (J Jx:List (Nat × U64)→World→Prop)
    (hY:∀ pre x W,J pre W→pre.length<zs.length→YieldAt F (n - 1) Tryz.prog l #[.int .i64 (x.1:Int),.int .u64 (x.2.1:Int)] W fun e W' =>
      (e=.returned (.bool true)∧J (pre++[x]) W'∧Keep2 b Bs W W')∨(e=.returned (.bool false)∧Jx (pre++[x]) W'))
    (W:World) (hBs:W.cell? ⟨Bs,0,none⟩=some (.slice (some ⟨b,0,none⟩) zs.length cap)) (hc:∀ j,j<zs.length→W.cell? ⟨b,j,none⟩=some (.int .u64 ((zs[j]?.getD default).1:Int))) (h0:J [] W) :
    CallsIn F n Tryz.prog 270 #[.func (.yield l) #[] #[],.pointer (some ⟨Bs,0,none⟩)] W fun e W'=>(∃ v,e=.returned v) ∧
      ((∃ ys,ys=upto (backF zs) zs.length∧J ys W')∨(∃ pre,(∃ k,k≤zs.length∧pre=upto (backF zs) k)∧Jx pre W')):=by
  refine callsIn_of_wp Tryz.func270 rfl hf ?_ hro
  simp only[Tryz.ntmps270,List.size_toArray,List.length_cons,List.length_nil,Nat.reduceAdd,Nat.reduceSub,Array.replicate_succ,Array.replicate_zero,List.push_toArray,List.append_toArray,List.nil_append,List.cons_append]
  gi_wp2
  gi_loopw [3] (fun i wr=>∃ k:Nat,k≤zs.length∧i=.int .i64 ((zs.length:Int) - 1 - (k:Int))∧J (upto (backF zs) k) wr∧Keep2 b Bs W wr)
    (fun i _=>(intOf i+1).toNat)
  case atStart=>exact⟨0,Nat.zero_le _,by simp,h0,Keep2.refl _ _ _⟩
  case round =>
    obtain⟨k,hk,hi,hJs,hnx⟩:=hrel
    have hBs':=(hnx.cell2 0).trans hBs
    by_cases hlt:k<zs.length
    · rw[show (zs.length:Int) - 1 - (k:Int)=((zs.length - 1 - k:Nat):Int) by omega] at hi
      subst hi
      have hjl:zs.length - 1 - k<zs.length:=by omega
      have hcx:=(hnx.cell1 _).trans (hc _ hjl)
      obtain⟨fn,tmps,assign,body,hy,hR⟩:=hY _ (backF zs k) wr hJs (by rw[upto_length];exact hlt)
      have hse:=upto_succ (backF zs) k
      unfold backF at hy
      dsimp only at hy
      generalize hj:zs.length - 1 - k=j at *
      generalize hz:zs[j]?.getD default=z at *
      have hbk:backF zs k=(j,z):=by simp only[backF,hj,hz]
      have hjz:(j:Int)<(zs.length:Int):=by omega
      have hnext:(j:Int) - 1=(zs.length:Int) - 1 - ((k+1:Nat):Int):=by omega
      have HN:=Lib.hid hnext
      clear hnext
      gi_wp2
      refine hR.mono ?_
      rintro e W3 (⟨rfl,hJ3,hk3⟩|⟨rfl,hJx3⟩)
      · gi_wp2
        go_roundw
        case rel=>exact⟨k+1,by omega,by rw[← HN.out],by rw[hse];exact hJ3,hnx.trans hk3⟩
        case measure=>first|(simp[intOf];done)|(simp[intOf];omega)
      · gi_wp2
        refine bodyPost_ret (results_none rfl _ _ _) rfl ?_
        exact⟨⟨_,rfl⟩,.inr ⟨_,⟨k+1,by omega,hse.symm⟩,hJx3⟩⟩
    · obtain rfl:k=zs.length:=by omega
      rw[show (zs.length:Int) - 1 - (zs.length:Int) = -1 by omega] at hi
      subst hi
      gi_wp2
      go_end0
      exact⟨⟨_,rfl⟩,.inl ⟨_,rfl,hJs⟩⟩
theorem backward_stops (n:Nat) (hn:1≤n) (Bs b cap:Nat) (zs:List U64) (hreach:zs.length≤1099511627776) (w:World) (hBn:Bs<w.heap.size) (hb:b<w.heap.size)
    (hBs:w.cell? ⟨Bs,0,none⟩=some (.slice (some ⟨b,0,none⟩) zs.length cap)) (hc:∀ j,j<zs.length→w.cell? ⟨b,j,none⟩=some (.int .u64 ((zs[j]?.getD default).1:Int))) :
    SeqStopsK Fence.wide n Tryz.prog 270 #[.pointer (some ⟨Bs,0,none⟩)] (fun x:Nat × U64=>#[Value.int .i64 (x.1:Int),Value.int .u64 (x.2.1:Int)]) (Keep2 b Bs) (fun ys=>ys=upto (backF zs) zs.length)
      (fun pre=>∃ k,k≤zs.length∧pre=upto (backF zs) k) zs.length w:=fun l J Jx W hW _ _ hY h0 =>
  backward1_in Fence.wide n trivial rfl hn l Bs b cap zs hreach J Jx hY W ((hW.cell (p:=⟨Bs,0,none⟩) hBn).trans hBs) (fun j hj=>(hW.cell (p:=⟨b,j,none⟩) hb).trans (hc j hj)) h0
theorem slices_Backward (a:Option Addr) (len cap:Nat) (w:World) :
    Calls Tryz.prog 243 #[.slice a len cap] w fun e w'=>e=.returned (.func (.func 270) #[] #[.pointer (some ⟨w.heap.size,0,none⟩)])∧w'=w.alloc (.cells #[.slice a len cap] 266):=by
  go_enter Tryz.func243,Tryz.ntmps243
  go_wp2
  go_ret
  exact⟨rfl,rfl⟩
theorem keeps_of_ext {W W' : World} (h:Ext W W'):KeepsOthers W W':=⟨h.size,fun k o hk _=>(h.block k (Array.getElem?_eq_some_iff.1 hk).1).trans hk⟩
theorem Blk.own {A B:World} {row:Option Nat} {g:Nat} {t:TypeId} {cs:List Value} (h:Blk A g t cs) (hg:A.grownBy B row) (hr:∀ r,row=some r→∃ o:Obj,A.heap[r]?=some o∧o.isCells=false):Blk B g t cs:=by
  refine h.grown hg (fun e=>?_)
  obtain⟨o,h1,h2⟩:=hr g e.symm
  unfold Blk at h
  rw[h] at h1
  cases h1
  cases h2
end Go.Proofs.YtmhligfnchegdaaGreatDoor
