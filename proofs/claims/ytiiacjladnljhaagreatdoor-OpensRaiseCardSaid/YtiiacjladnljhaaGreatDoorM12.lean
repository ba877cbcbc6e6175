/- Part 12 of the proof: Grow, Shelf, LimA, Conc, Back, LimS -/
import Derived.Test.YtiiacjladnljhaaGreatDoorM11
import Derived.Test.YtiiacjladnljhaaGreatDoorM07
import Derived.Test.YtiiacjladnljhaaGreatDoorM03
import Derived.Lib.AppendZeros
import Derived.Lib.AppendZerosOnto
import Derived.Lib.Walk
import Derived.Lib.SliceRun
import Derived.OwnWalk
import Derived.Test.YtiiacjladnljhaaGreatDoorProg
import Derived.Shelf.Small.Bits
import Derived.Shelf.Strconv.Itoa0
import Derived.Shelf.Bits.Mul64
import Derived.StillTailTactics
import Derived.BigQuiet
import Derived.Deep.QuietTactic
import Derived.Deep.RegionHeld3
import Derived.Deep.LoopGhost
import Derived.Shelf.Spec.BitsCarry
import Derived.Handy
import Derived.Laws.AppendOwnNone
import Derived.RangeFuncNested
import Derived.RangeFuncBound
import Derived.RangeFuncCalls
import Derived.RangeFuncBox
import Derived.RangeFuncLeaves
import Derived.RangeFuncFrom
import Derived.Shelf.Abstract
import Derived.Shelf.RegionOpen
import Derived.OwnWalkIn
import Derived.TacticsInMore
import Derived.LoopNIn
import Derived.LoopIn
set_option linter.unusedSimpArgs false
set_option linter.unusedVariables false
namespace Go.Proofs.YtiiacjladnljhaaGreatDoor
open Go.RowKit
set_option maxRecDepth 100000 in
set_option maxHeartbeats 1000000 in
theorem slices_Grow_u64 (n:Nat) (h0:0<n) (hn:n≤1099511627776) (w:World) :
    Calls Tryz.prog 268 #[.slice none 0 0,.int .i64 (n:Int)] w fun e w'=>∃ v,e=.returned v∧w'.ownsRow w.heap.size 22 1 v 0 []∧Below w.heap.size w w':=by
  have hinfo:(Tryz.prog.info? 22).map (fun i=>(i.zero,i.size,i.bytes))=some (some (.int .u64 0),1,8):=by kernel_rfl
  obtain⟨i0,hi,hz0,hz1,hz2⟩:=info_parts hinfo
  have hr:=fun ty=>Lib.run_append_nil_zeros (P:=Tryz.prog) w 289 3 ty 22 i0 (.int .u64 0) .i64 .i64 Tryz.underlying289 Tryz.underlying3 hi hz0 n h0 (by omega) (by omega) (by rw[hz2];omega)
  have hge:=grownCap_ge w n 0 22
  have hml:=grownCap_le_maxLen w n 0 22 (by simp[maxLen];omega)
  generalize grownCap w n 0 22=G at *
  have hG63:G≤9223372036854775807:=by unfold maxLen at hml;omega
  have HM:=Lib.hid hml
  clear hml
  go_enter Tryz.func268,Tryz.ntmps268
  go_wp2_with (at_builtin;refine Lib.wpList_append_run _ rfl _ _ _ _ rfl _ _ rfl rfl _ _ (hr _) ?_)
  go_ret
  refine⟨_,rfl,?_,(Below.refl _ _).drew.alloc (Nat.le_refl _) _⟩
  refine⟨rfl,.inr ⟨w.heap.size,_,_,rfl,Nat.le_refl _,heap_alloc_new w.drew _,by omega,HM.out,?_,by simp⟩⟩
  rw[Array.size_append,size_zeroCells,size_zeroCells]
  show n*1+(G - n)*1=G*1
  omega
end Go.Proofs.YtiiacjladnljhaaGreatDoor
namespace Go.Proofs
open Go.Shelf
def Tryz.lays125_ren:Go.Shelf.Ren:=⟨fun|125=>98|128=>177|129=>178|n=>n,fun|46=>105|3=>3|51=>170|53=>22|4=>4|5=>5|9=>9|n=>n,fun|n=>n⟩
theorem Tryz.lays125:Go.Proofs.Lays.n125 Tryz.prog Tryz.lays125_ren:={
  mixed:=by kernel_rfl
  f125:=Tryz.func98.trans (congrArg some (by kernel_rfl))
  f128:=Tryz.func177.trans (congrArg some (by kernel_rfl))
  f129:=Tryz.func178.trans (congrArg some (by kernel_rfl))
  t3:=Tryz.underlying3
  a3:=Tryz.isAgg3
  z3:=Tryz.sizeOf3
  v3:=Tryz.zeroValue3
  t4:=Tryz.underlying4
  a4:=Tryz.isAgg4
  z4:=Tryz.sizeOf4
  v4:=Tryz.zeroValue4
  t5:=Tryz.underlying5
  a5:=Tryz.isAgg5
  z5:=Tryz.sizeOf5
  v5:=Tryz.zeroValue5
  t9:=Tryz.underlying9
  a9:=Tryz.isAgg9
  z9:=Tryz.sizeOf9
  v9:=Tryz.zeroValue9
  t46:=Tryz.underlying105
  a46:=Tryz.isAgg105
  z46:=Tryz.sizeOf105
  v46:=Tryz.zeroValue105
  t51:=Tryz.underlying170
  a51:=Tryz.isAgg170
  z51:=Tryz.sizeOf170
  v51:=Tryz.zeroValue170
  t53:=Tryz.underlying22
  a53:=Tryz.isAgg22
  z53:=Tryz.sizeOf22
  v53:=Tryz.zeroValue22 }
theorem Tryz.bits_Len (x:Int) (w:World) (h0:0≤x) (h1:x≤18446744073709551615) :
    Calls Tryz.prog 98 #[.int .u64 x] w fun e w'=>e=.returned (.int .i64 (Lib.bitLen x.toNat))∧w'=w:=Any.bits_Len Tryz.lays125 x w h0 h1
def Tryz.lays134_ren:Go.Shelf.Ren:=⟨fun|134=>250|129=>178|n=>n,fun|53=>22|3=>3|4=>4|46=>105|5=>5|9=>9|n=>n,fun|n=>n⟩
theorem Tryz.lays134:Go.Proofs.Lays.n134 Tryz.prog Tryz.lays134_ren:={
  mixed:=by kernel_rfl
  f129:=Tryz.func178.trans (congrArg some (by kernel_rfl))
  f134:=Tryz.func250.trans (congrArg some (by kernel_rfl))
  t3:=Tryz.underlying3
  a3:=Tryz.isAgg3
  z3:=Tryz.sizeOf3
  v3:=Tryz.zeroValue3
  t4:=Tryz.underlying4
  a4:=Tryz.isAgg4
  z4:=Tryz.sizeOf4
  v4:=Tryz.zeroValue4
  t5:=Tryz.underlying5
  a5:=Tryz.isAgg5
  z5:=Tryz.sizeOf5
  v5:=Tryz.zeroValue5
  t9:=Tryz.underlying9
  a9:=Tryz.isAgg9
  z9:=Tryz.sizeOf9
  v9:=Tryz.zeroValue9
  t46:=Tryz.underlying105
  a46:=Tryz.isAgg105
  z46:=Tryz.sizeOf105
  v46:=Tryz.zeroValue105
  t53:=Tryz.underlying22
  a53:=Tryz.isAgg22
  z53:=Tryz.sizeOf22
  v53:=Tryz.zeroValue22 }
theorem Tryz.bits_LeadingZeros64 (x:Int) (w:World) (h0:0≤x) (h1:x≤18446744073709551615) :
    Calls Tryz.prog 250 #[.int .u64 x] w fun e w'=>e=.returned (.int .i64 (64 - (Lib.bitLen x.toNat:Int)))∧w'=w:=Any.bits_LeadingZeros64 Tryz.lays134 x w h0 h1
def Tryz.lays129_ren:Go.Shelf.Ren:=⟨fun|129=>178|n=>n,fun|53=>22|3=>3|4=>4|46=>105|5=>5|9=>9|n=>n,fun|n=>n⟩
theorem Tryz.lays129:Go.Proofs.Lays.n129 Tryz.prog Tryz.lays129_ren:={
  mixed:=by kernel_rfl
  f129:=Tryz.func178.trans (congrArg some (by kernel_rfl))
  t3:=Tryz.underlying3
  a3:=Tryz.isAgg3
  z3:=Tryz.sizeOf3
  v3:=Tryz.zeroValue3
  t4:=Tryz.underlying4
  a4:=Tryz.isAgg4
  z4:=Tryz.sizeOf4
  v4:=Tryz.zeroValue4
  t5:=Tryz.underlying5
  a5:=Tryz.isAgg5
  z5:=Tryz.sizeOf5
  v5:=Tryz.zeroValue5
  t9:=Tryz.underlying9
  a9:=Tryz.isAgg9
  z9:=Tryz.sizeOf9
  v9:=Tryz.zeroValue9
  t46:=Tryz.underlying105
  a46:=Tryz.isAgg105
  z46:=Tryz.sizeOf105
  v46:=Tryz.zeroValue105
  t53:=Tryz.underlying22
  a53:=Tryz.isAgg22
  z53:=Tryz.sizeOf22
  v53:=Tryz.zeroValue22 }
theorem Tryz.bits_Len64 (x:Int) (w:World) (h0:0≤x) (h1:x≤18446744073709551615) :
    Calls Tryz.prog 178 #[.int .u64 x] w fun e w'=>e=.returned (.int .i64 (Lib.bitLen x.toNat))∧w'=w:=Any.bits_Len64 Tryz.lays129 x w h0 h1
def Tryz.lays264_ren:Go.Shelf.Ren:=⟨fun|264=>219|n=>n,fun|53=>22|46=>105|n=>n,fun|n=>n⟩
theorem Tryz.lays264:Go.Proofs.Lays.n264 Tryz.prog Tryz.lays264_ren:={
  mixed:=by kernel_rfl
  f264:=Tryz.func219.trans (congrArg some (by kernel_rfl))
  t46:=Tryz.underlying105
  a46:=Tryz.isAgg105
  z46:=Tryz.sizeOf105
  v46:=Tryz.zeroValue105
  t53:=Tryz.underlying22
  a53:=Tryz.isAgg22
  z53:=Tryz.sizeOf22
  v53:=Tryz.zeroValue22 }
open Go.RowKit Go.Lib in
theorem Tryz.bits_Mul64 (x y:Nat) (hx:x<18446744073709551616) (hy:y<18446744073709551616) (w:World) :
    Calls Tryz.prog 219 #[.int .u64 x,.int .u64 y] w fun e w'=>e=.returned (.tuple #[.int .u64 ((x*y / 18446744073709551616:Nat):Int),.int .u64 ((x*y%18446744073709551616:Nat):Int)])∧w'=w:=Any.bits_Mul64 Tryz.lays264 x y hx hy w
end Go.Proofs
namespace Go.Proofs.YtiiacjladnljhaaGreatDoor
open Go.RowKit
theorem run_Add64 (x y c:Nat) (hc:c≤1) (w:World) :
    (callFunc 257 #[.int .u64 x,.int .u64 y,.int .u64 c]).run Tryz.prog w =
      .ok (.value (.tuple #[.int .u64 (((x+y+c)%18446744073709551616:Nat):Int),.int .u64 (((x+y+c) / 18446744073709551616:Nat):Int)])) w:=by
  rw[run_callFunc_extern (Tryz.func257) (by kernel_rfl) (by kernel_rfl) (by kernel_rfl) (e:=add64Entry) (by kernel_rfl),run_add64 x y c (by omega) (by omega) (by omega) (by omega)]
  simp only[Result.andThen]
  congr 5<;>omega
def cy (a b:Nat):Nat→Nat
  | 0=>0
  | k+1=>(wd k a+wd k b+cy a b k) / 18446744073709551616
def sw (a b k:Nat):Nat:=(wd k a+wd k b+cy a b k)%18446744073709551616
theorem cy_le (a b k:Nat):cy a b k≤1:=by
  induction k with
  | zero=>exact Nat.zero_le _
  | succ k ih=>have:=wd_lt k a;have:=wd_lt k b;simp only[cy];omega
def u64 (n:Nat):Value:=.int .u64 ((n:Nat):Int)
def sumC (a b k:Nat):List Value:=[if 0<k then .int .u64 (sw a b 0:Nat) else .int .u64 0,if 1<k then .int .u64 (sw a b 1:Nat) else .int .u64 0,if 2<k then .int .u64 (sw a b 2:Nat) else .int .u64 0,if 3<k then .int .u64 (sw a b 3:Nat) else .int .u64 0]
theorem numC_get (a:Nat) {k:Nat} (h:k<4):(numC a)[k]?=some (.int .u64 (wd k a:Nat)):=by
  have:k=0∨k=1∨k=2∨k=3:=by omega
  rcases this with rfl|rfl|rfl|rfl<;>rfl
theorem sumC_get (a b:Nat) {k:Nat} (h:k<4):(sumC a b k)[k]?=some (.int .u64 0):=by
  have:k=0∨k=1∨k=2∨k=3:=by omega
  rcases this with rfl|rfl|rfl|rfl<;>rfl
theorem sumC_set (a b:Nat) {k:Nat} (h:k<4):(sumC a b k).set k (.int .u64 (sw a b k:Nat))=sumC a b (k+1):=by
  have:k=0∨k=1∨k=2∨k=3:=by omega
  rcases this with rfl|rfl|rfl|rfl<;>rfl
set_option maxRecDepth 100000 in
theorem limbs_Add (a b:Nat) (ha:a<B256) (hbb:b<B256) (w:World) :
    Calls Tryz.prog 229 #[numV a,numV b] w fun e w'=>e=.returned (.tuple #[numV ((a+b)%B256),.int .u64 (((a+b) / B256:Nat):Int)])∧Below w.heap.size w w':=by
  have hA:=run_Add64
  go_enter Tryz.func229,Tryz.ntmps229
  go_wp2
  generalize hW:((w.alloc _).alloc _).alloc _=W
  have hg0:Blk W w.heap.size 24 (numC a):=by subst hW;exact ((Blk.new _ _ _).alloc _).alloc _
  have hg1:Blk W (w.heap.size+1) 24 (numC b):=by subst hW;exact (Blk.new' (by simp)).alloc _
  have hg2:Blk W (w.heap.size+1+1) 24 (sumC a b 0):=by subst hW;exact Blk.new' (by simp)
  have hb:Below w.heap.size w W:=by subst hW;exact (((Below.refl _ _).alloc (Nat.le_refl _) _).alloc (by simp) _).alloc (by simp;omega) _
  clear hW
  go_loopw [5,7] (fun c i wr=>∃ k:Nat,k≤4∧i=.int .i64 k∧c=.int .u64 (cy a b k:Nat)∧Blk wr w.heap.size 24 (numC a)∧Blk wr (w.heap.size+1) 24 (numC b)∧Blk wr (w.heap.size+1+1) 24 (sumC a b k)∧Below w.heap.size w wr) (fun _ i _=>4 - (intOf i).toNat)
  case atStart=>exact⟨0,by omega,rfl,rfl,hg0,hg1,hg2,hb⟩
  case round =>
    clear hg0 hg1 hg2 hb
    obtain⟨k,hk,rfl,rfl,hg0,hg1,hg2,hb⟩:=hrel
    have hc:=cy_le a b k
    by_cases hlt:k<4
    · have c0:=hg0.cell_at (numC_get a hlt)
      have c1:=hg1.cell_at (numC_get b hlt)
      have c2:=hg2.cell_at (sumC_get a b hlt)
      have f2:=hg2.frozen k
      go_wp2
      have lt0:=hg0.lt
      have lt1:=hg1.lt
      have lt2:=hg2.lt
      refine Kp.wp_region_kpf [11] 13 (by kernel_rfl) (by kernel_rfl) (fun L Fin hL hFin=>?_)
      have HL:=Lib.hid hL;clear hL
      have HF:=Lib.hid hFin;clear hFin
      simp only[List.take_succ_cons,List.take_zero,List.drop_succ_cons,List.drop_zero]
      apply Exists.intro
      repeat ((first|(apply Kp.kp_free;(first|rfl|(rw[HL.out];rfl));(intro w1;go_simp;rfl))|(apply Kp.kp_now;rfl;(first|rfl|(rw[HL.out];rfl));(intro w1 hb1;obtain⟨hcw,hfw⟩:=bcell hb1;clear hb1;go_simp;rfl)));simp only[Act.put,List.setIfInBounds_toArray,List.set_cons_succ,List.set_cons_zero])
      apply Kp.kp_nil
      refine HF.out _ _ (fun w1 hb1 _=>?_)
      clear HL HF
      simp only[List.drop_succ_cons,List.drop_zero]
      have c3:=(hg2.below hb1 lt2).cell_at (sumC_get a b hlt)
      have f3:=(hg2.below hb1 lt2).frozen k
      go_wp2
      refine NoPanic.normal ?_
      go_wp2
      go_roundw
      case rel =>
        refine⟨k+1,by omega,by go_num,?_,(hg0.below hb1 lt0).far (by simp;omega) _,(hg1.below hb1 lt1).far (by simp) _,?_,(hb.trans (hb1.mono hb.size)).setCell (by simp;omega) _⟩
        · simp[cy]
        · rw[← sumC_set a b hlt]
          exact (hg2.below hb1 lt2).set_ k _
      case measure=>simp[intOf];omega
    · obtain rfl:k=4:=by omega
      have d0:wr.cell? ⟨w.heap.size+1+1,0,none⟩=some (.int .u64 ((sw a b 0:Nat):Int)):=hg2.cell_at rfl
      have d1:wr.cell? ⟨w.heap.size+1+1,1,none⟩=some (.int .u64 ((sw a b 1:Nat):Int)):=hg2.cell_at rfl
      have d2:wr.cell? ⟨w.heap.size+1+1,2,none⟩=some (.int .u64 ((sw a b 2:Nat):Int)):=hg2.cell_at rfl
      have d3:wr.cell? ⟨w.heap.size+1+1,3,none⟩=some (.int .u64 ((sw a b 3:Nat):Int)):=hg2.cell_at rfl
      have ff:=hg2.frozen
      clear hA
      go_wp2
      have hs:=add_words a b ha hbb (sw a b 0) (sw a b 1) (sw a b 2) (sw a b 3) (cy a b 1) (cy a b 2) (cy a b 3) (cy a b 4) (by simp[sw,cy]) (by simp[cy]) rfl rfl rfl rfl rfl rfl
      have hlt:=fun i=>Nat.mod_lt (wd i a+wd i b+cy a b i) (show 0<18446744073709551616 by omega)
      have hv:=numV_of (hlt 0) (hlt 1) (hlt 2) (hlt 3)
      have ev:Value.agg #[.int .u64 ((sw a b 0:Nat):Int),.int .u64 ((sw a b 1:Nat):Int),.int .u64 ((sw a b 2:Nat):Int),.int .u64 ((sw a b 3:Nat):Int)]=numV ((a+b)%B256):=by rw[← hs.1];exact hv
      refine bodyPost_ret (v:=.tuple #[numV ((a+b)%B256),.int .u64 (((a+b) / B256:Nat):Int)]) ?_ rfl ⟨rfl,?_⟩
      · rw[← ev,← hs.2]
        simp[results,Tryz.results229,go_sem,d0,d1,d2,d3]
      · refine ((((hb.setCell ?_ _).setCell ?_ _).setCell ?_ _).setCell ?_ _)<;>(simp;omega)
end Go.Proofs.YtiiacjladnljhaaGreatDoor
namespace Go.Proofs.YtiiacjladnljhaaGreatDoor
open Go.RowKit
def Rd (w:World) (v:Value) (xs:List Value):Prop :=
  (∀ u∈xs,u.oneCell'=true)∧((v=.slice none 0 0∧xs=[])∨∃ (a:Addr) (c:Nat),v=.slice (some a) xs.length c∧a.block<w.heap.size∧∀ j u,xs[j]?=some u→w.cell? (a.add j)=some u)
theorem add_block (a:Addr) (j:Nat):(a.add j).block=a.block:=by unfold Addr.add;split<;>rfl
theorem Rd.below {w w' : World} {v:Value} {xs:List Value} {B:Nat} (h:Rd w v xs) (hB:w.heap.size=B) (hb:Below B w w'):Rd w' v xs:=by
  subst hB
  obtain⟨h1,h2|⟨a,c,h2,h3,h4⟩⟩:=h
  · exact⟨h1,.inl h2⟩
  · exact⟨h1,.inr ⟨a,c,h2,Nat.lt_of_lt_of_le h3 hb.size,fun j u hj=>(hb.cell (p:=a.add j) (by rw[add_block];exact h3)).trans (h4 j u hj)⟩⟩
def totN (n1 n2 k:Nat):Nat:=if k=0 then 0 else if k=1 then n1 else n1+n2
def catN (xs1 xs2:List Value) (k:Nat):List Value:=if k=0 then [] else if k=1 then xs1 else xs1++xs2
theorem owns_below {B:Nat} {w0 w w' : World} {e:TypeId} {size n:Nat} {v:Value} {xs:List Value} (hB:B≤w.heap.size) (hb:Below B w0 w) (h:w.ownsRow B e size v n xs) (hg:w.grownBy w' v.ownBlock):Below B w0 w':=by
  refine hb.grown hg hB (fun k e=>?_)
  rcases h.2 with ⟨rfl,_⟩|⟨g,cap,cur,rfl,hB,_⟩
  · cases e
  · cases e;exact hB
set_option maxRecDepth 100000 in
set_option maxHeartbeats 1000000 in
theorem slices_Concat_u64 (v1 v2:Value) (xs1 xs2:List Value) (S c:Nat) (w:World) (h1:Rd w v1 xs1) (h2:Rd w v2 xs2) (hS:Blk w S 289 [v1,v2]) (hn:0<xs1.length+xs2.length) (hm:xs1.length+xs2.length≤1099511627776) :
    Calls Tryz.prog 253 #[.slice (some ⟨S,0,none⟩) 2 c] w fun e w' =>
      ∃ v,e=.returned v∧w'.ownsRow w.heap.size 22 1 v (xs1.length+xs2.length) (xs1++xs2)∧Below w.heap.size w w':=by
  have hb1:∃ b n c,v1=.slice b n c∧n=xs1.length:=by
    obtain⟨_,⟨rfl,rfl⟩|⟨a,c,rfl,_⟩⟩:=h1
    · exact⟨_,_,_,rfl,rfl⟩
    · exact⟨_,_,_,rfl,rfl⟩
  have hb2:∃ b n c,v2=.slice b n c∧n=xs2.length:=by
    obtain⟨_,⟨rfl,rfl⟩|⟨a,c,rfl,_⟩⟩:=h2
    · exact⟨_,_,_,rfl,rfl⟩
    · exact⟨_,_,_,rfl,rfl⟩
  obtain⟨b1,n1,c1,rfl,e1⟩:=hb1
  obtain⟨b2,n2,c2,rfl,e2⟩:=hb2
  rw[← e1,← e2] at hn hm ⊢
  have lS:=hS.lt
  have cS0:=hS.cell_at (i:=0) rfl
  have cS1:=hS.cell_at (i:=1) rfl
  have H1:=Lib.hid h1;have H2:=Lib.hid h2;have E1:=Lib.hid e1;have E2:=Lib.hid e2
  clear h1 h2 e1 e2
  go_enter Tryz.func253,Tryz.ntmps253
  go_wp2
  go_loopw [3,11] (fun t3 t11 wr=>∃ k:Nat,k≤2∧t11=.int .i64 k∧t3=.int .i64 (totN n1 n2 k:Nat)∧wr=w) (fun _ i _=>2 - (intOf i).toNat)
  case atStart=>exact⟨0,by omega,rfl,rfl,rfl⟩
  case round =>
    obtain⟨k,hk,rfl,rfl,rfl⟩:=hrel
    have hk3:k=0∨k=1∨k=2:=by omega
    rcases hk3 with rfl|rfl|rfl
    · have ht0:totN n1 n2 0=0:=rfl
      rw[ht0]
      go_wp2
      go_roundw
      case rel=>exact⟨1,by omega,rfl,by simp[totN],trivial⟩
      case measure=>simp[intOf]
    · have ht0:totN n1 n2 1=n1:=rfl
      rw[ht0]
      go_wp2
      go_roundw
      case rel=>exact⟨2,by omega,rfl,by simp[totN],trivial⟩
      case measure=>simp[intOf]
    · have ht0:totN n1 n2 2=n1+n2:=rfl
      rw[ht0]
      go_wp2_with (go_at_call 268;refine (slices_Grow_u64 (n1+n2) hn hm _).mono ?_;rintro e W ⟨v,rfl,hown,hbw⟩)
      obtain⟨w,rfl⟩ : ∃ w:World,w=wr:=⟨_,rfl⟩
      clear cS0 cS1 ht0
      go_loopw [6,27] (fun t6 t27 wr=>∃ (x6:Value) (k:Nat),x6=t6∧k≤2∧t27=.int .i64 k∧wr.ownsRow w.heap.size 22 1 x6 (totN n1 n2 k) (catN xs1 xs2 k)∧Below w.heap.size w wr) (fun _ i _=>2 - (intOf i).toNat)
      case atStart=>exact⟨_,0,rfl,by omega,rfl,hown,hbw⟩
      case round =>
        clear hown hbw
        obtain⟨x6,k,rfl,hk,rfl,hown,hbw⟩:=hrel
        have hinfo:(Tryz.prog.info? 22).map (fun i=>(i.zero,i.size,i.bytes))=some (some (.int .u64 0),1,8):=by kernel_rfl
        obtain⟨i0,hi,hz0,hz1,hz2⟩:=info_parts hinfo
        have hk3:k=0∨k=1∨k=2:=by omega
        rcases hk3 with rfl|rfl|rfl
        · have c0:=(hS.below hbw lS).cell_at (i:=0) rfl
          have hr:=H1.out.below rfl hbw
          have e1:=E1.out
          obtain⟨ho,⟨e,rfl⟩|⟨a,c',e,hlt,hc⟩⟩:=hr
          · obtain⟨rfl,q1,q2⟩ : b1=none∧n1=0∧c1=0:=by cases e;exact⟨rfl,rfl,rfl⟩
            have hx0:Value.slice none n1 c1=.slice none 0 0:=by rw[q1,q2]
            have Q:=Lib.hid q1
            clear e1 ho e q1 q2
            have HX:=Lib.hid hx0;clear hx0
            go_wp2_with (at_builtin;refine wpList_append_own_none rfl _ _ 289 rfl w.heap.size 22 i0 1 Tryz.underlying289 hi x6 _ _ rfl hown HX.out ?_)
            go_roundw
            case rel=>exact⟨_,1,rfl,by omega,rfl,by simpa [totN,catN,Q.out] using hown,hbw⟩
            case measure=>simp[intOf]
          · cases e
            clear e1
            go_wp2_with (at_builtin;refine wpList_append_own _ rfl _ _ 289 rfl w.heap.size 22 i0 (.int .u64 0) 1 8 Tryz.underlying289 hi hz0 hz1 hz2 rfl (by decide) x6 _ _ rfl hown a xs1.length _ xs1 rfl (by simp) hc ho (by simp[totN,maxLen];omega) (by simp[totN];omega) hbw.size ?_;intro v' w1 hown' hgrow _)
            go_roundw
            case rel=>exact⟨_,1,rfl,by omega,rfl,by simpa [totN,catN] using hown',owns_below hbw.size hbw hown hgrow⟩
            case measure=>simp[intOf]
        · have c0:=(hS.below hbw lS).cell_at (i:=1) rfl
          have hr:=H2.out.below rfl hbw
          have e1:=E2.out
          obtain⟨ho,⟨e,rfl⟩|⟨a,c',e,hlt,hc⟩⟩:=hr
          · obtain⟨rfl,q1,q2⟩ : b2=none∧n2=0∧c2=0:=by cases e;exact⟨rfl,rfl,rfl⟩
            have hx0:Value.slice none n2 c2=.slice none 0 0:=by rw[q1,q2]
            have Q:=Lib.hid q1
            clear e1 ho e q1 q2
            have HX:=Lib.hid hx0;clear hx0
            go_wp2_with (at_builtin;refine wpList_append_own_none rfl _ _ 289 rfl w.heap.size 22 i0 1 Tryz.underlying289 hi x6 _ _ rfl hown HX.out ?_)
            go_roundw
            case rel=>exact⟨_,2,rfl,by omega,rfl,by simpa [totN,catN,Q.out] using hown,hbw⟩
            case measure=>simp[intOf]
          · cases e
            clear e1
            go_wp2_with (at_builtin;refine wpList_append_own _ rfl _ _ 289 rfl w.heap.size 22 i0 (.int .u64 0) 1 8 Tryz.underlying289 hi hz0 hz1 hz2 rfl (by decide) x6 _ _ rfl hown a xs2.length _ xs2 rfl (by simp) hc ho (by simp[totN,maxLen];omega) (by simp[totN];omega) hbw.size ?_;intro v' w1 hown' hgrow _)
            go_roundw
            case rel=>exact⟨_,2,rfl,by omega,rfl,by simpa [totN,catN] using hown',owns_below hbw.size hbw hown hgrow⟩
            case measure=>simp[intOf]
        · go_wp2
          go_ret
          refine⟨_,rfl,?_,hbw⟩
          simpa [totN,catN] using hown
end Go.Proofs.YtiiacjladnljhaaGreatDoor
namespace Go.Proofs.YtiiacjladnljhaaGreatDoor
open Go.RowKit Go.Shelf
attribute [local go_sem] Oper.semAt_some
def upto {α:Type} (f:Nat→α) (k:Nat):List α:=(List.range k).map f
theorem upto_succ {α:Type} (f:Nat→α) (k:Nat):upto f (k+1)=upto f k++[f k]:=by simp[upto,List.range_succ]
theorem upto_length {α:Type} (f:Nat→α) (k:Nat):(upto f k).length=k:=by simp[upto]
abbrev U64:Type:={ n:Nat // n<18446744073709551616 }
instance:Inhabited U64:=⟨⟨0,by omega⟩⟩
def Keep2 (b c:Nat) (A B:World):Prop:=B.heap[b]?=A.heap[b]?∧B.heap[c]?=A.heap[c]?
theorem Keep2.refl (b c:Nat) (A:World):Keep2 b c A A:=⟨rfl,rfl⟩
theorem Keep2.trans {b c:Nat} {A B C:World} (h:Keep2 b c A B) (k:Keep2 b c B C):Keep2 b c A C:=⟨k.1.trans h.1,k.2.trans h.2⟩
theorem Keep2.cell1 {b c:Nat} {A B:World} (h:Keep2 b c A B) (j:Nat):B.cell? ⟨b,j,none⟩=A.cell? ⟨b,j,none⟩:=World.cell?_of_block (a:=⟨b,j,none⟩) h.1
theorem Keep2.cell2 {b c:Nat} {A B:World} (h:Keep2 b c A B) (j:Nat):B.cell? ⟨c,j,none⟩=A.cell? ⟨c,j,none⟩:=World.cell?_of_block (a:=⟨c,j,none⟩) h.2
theorem Keep2.put {b c:Nat} {w:World} (hb:b<w.heap.size) (hc:c<w.heap.size) (W:World) (l:Nat) (o o' : Obj) (hl:w.heap.size≤l) (_:W.heap[l]?=some o) (_:o.isCells=false) (_:o.isWalk=false):Keep2 b c W (W.putObj l o') :=
  ⟨World.putObj_heap_other (by omega),World.putObj_heap_other (by omega)⟩
def backF (zs:List U64) (j:Nat):Nat × U64:=(zs.length - 1 - j,zs[zs.length - 1 - j]?.getD default)
set_option maxRecDepth 100000 in
set_option maxHeartbeats 2000000 in
theorem backward1_in (F:Fence) (n:Nat) (hf:F.fn 269) (hro:F.round=none) (hn:1≤n) (l Bs b cap:Nat) (zs:List U64) (hreach:zs.length≤1099511627776) (J Jx:List (Nat × U64)→World→Prop)
    (hY:∀ pre x W,J pre W→pre.length<zs.length→YieldAt F (n - 1) Tryz.prog l #[.int .i64 (x.1:Int),.int .u64 (x.2.1:Int)] W fun e W' =>
      (e=.returned (.bool true)∧J (pre++[x]) W'∧Keep2 b Bs W W')∨(e=.returned (.bool false)∧Jx (pre++[x]) W'))
    (W:World) (hBs:W.cell? ⟨Bs,0,none⟩=some (.slice (some ⟨b,0,none⟩) zs.length cap)) (hc:∀ j,j<zs.length→W.cell? ⟨b,j,none⟩=some (.int .u64 ((zs[j]?.getD default).1:Int))) (h0:J [] W) :
    CallsIn F n Tryz.prog 269 #[.func (.yield l) #[] #[],.pointer (some ⟨Bs,0,none⟩)] W fun e W'=>(∃ v,e=.returned v) ∧
      ((∃ ys,ys=upto (backF zs) zs.length∧J ys W')∨(∃ pre,(∃ k,k≤zs.length∧pre=upto (backF zs) k)∧Jx pre W')):=by
  refine callsIn_of_wp Tryz.func269 rfl hf ?_ hro
  simp only[Tryz.ntmps269,List.size_toArray,List.length_cons,List.length_nil,Nat.reduceAdd,Nat.reduceSub,Array.replicate_succ,Array.replicate_zero,List.push_toArray,List.append_toArray,List.nil_append,List.cons_append]
  gi_wp2
  gi_loopw [3] (fun i wr=>∃ k:Nat,k≤zs.length∧i=.int .i64 ((zs.length:Int) - 1 - (k:Int))∧J (upto (backF zs) k) wr∧Keep2 b Bs W wr)
    (fun i _=>(intOf i+1).toNat)
  case atStart=>exact⟨0,Nat.zero_le _,by simp,h0,Keep2.refl _ _ _⟩
  case round =>
    obtain⟨k,hk,hi,hJs,hnx⟩:=hrel
    have hBs':=(hnx.cell2 0).trans hBs
    by_cases hlt:k<zs.length
    · rw[show (zs.length:Int) - 1 - (k:Int)=((zs.length - 1 - k:Nat):Int) by omega] at hi
      subst hi
      have hjl:zs.length - 1 - k<zs.length:=by omega
      have hcx:=(hnx.cell1 _).trans (hc _ hjl)
      obtain⟨fn,tmps,assign,body,hy,hR⟩:=hY _ (backF zs k) wr hJs (by rw[upto_length];exact hlt)
      have hse:=upto_succ (backF zs) k
      unfold backF at hy
      dsimp only at hy
      generalize hj:zs.length - 1 - k=j at *
      generalize hz:zs[j]?.getD default=z at *
      have hbk:backF zs k=(j,z):=by simp only[backF,hj,hz]
      have hjz:(j:Int)<(zs.length:Int):=by omega
      have hnext:(j:Int) - 1=(zs.length:Int) - 1 - ((k+1:Nat):Int):=by omega
      have HN:=Lib.hid hnext
      clear hnext
      gi_wp2
      refine hR.mono ?_
      rintro e W3 (⟨rfl,hJ3,hk3⟩|⟨rfl,hJx3⟩)
      · gi_wp2
        go_roundw
        case rel=>exact⟨k+1,by omega,by rw[← HN.out],by rw[hse];exact hJ3,hnx.trans hk3⟩
        case measure=>first|(simp[intOf];done)|(simp[intOf];omega)
      · gi_wp2
        refine bodyPost_ret (results_none rfl _ _ _) rfl ?_
        exact⟨⟨_,rfl⟩,.inr ⟨_,⟨k+1,by omega,hse.symm⟩,hJx3⟩⟩
    · obtain rfl:k=zs.length:=by omega
      rw[show (zs.length:Int) - 1 - (zs.length:Int) = -1 by omega] at hi
      subst hi
      gi_wp2
      go_end0
      exact⟨⟨_,rfl⟩,.inl ⟨_,rfl,hJs⟩⟩
theorem backward_stops (n:Nat) (hn:1≤n) (Bs b cap:Nat) (zs:List U64) (hreach:zs.length≤1099511627776) (w:World) (hBn:Bs<w.heap.size) (hb:b<w.heap.size)
    (hBs:w.cell? ⟨Bs,0,none⟩=some (.slice (some ⟨b,0,none⟩) zs.length cap)) (hc:∀ j,j<zs.length→w.cell? ⟨b,j,none⟩=some (.int .u64 ((zs[j]?.getD default).1:Int))) :
    SeqStopsK Fence.wide n Tryz.prog 269 #[.pointer (some ⟨Bs,0,none⟩)] (fun x:Nat × U64=>#[Value.int .i64 (x.1:Int),Value.int .u64 (x.2.1:Int)]) (Keep2 b Bs) (fun ys=>ys=upto (backF zs) zs.length)
      (fun pre=>∃ k,k≤zs.length∧pre=upto (backF zs) k) zs.length w:=fun l J Jx W hW _ _ hY h0 =>
  backward1_in Fence.wide n trivial rfl hn l Bs b cap zs hreach J Jx hY W ((hW.cell (p:=⟨Bs,0,none⟩) hBn).trans hBs) (fun j hj=>(hW.cell (p:=⟨b,j,none⟩) hb).trans (hc j hj)) h0
theorem slices_Backward (a:Option Addr) (len cap:Nat) (w:World) :
    Calls Tryz.prog 254 #[.slice a len cap] w fun e w'=>e=.returned (.func (.func 269) #[] #[.pointer (some ⟨w.heap.size,0,none⟩)])∧w'=w.alloc (.cells #[.slice a len cap] 289):=by
  go_enter Tryz.func254,Tryz.ntmps254
  go_wp2
  go_ret
  exact⟨rfl,rfl⟩
theorem keeps_of_ext {W W' : World} (h:Ext W W'):KeepsOthers W W':=⟨h.size,fun k o hk _=>(h.block k (Array.getElem?_eq_some_iff.1 hk).1).trans hk⟩
theorem Blk.own {A B:World} {row:Option Nat} {g:Nat} {t:TypeId} {cs:List Value} (h:Blk A g t cs) (hg:A.grownBy B row) (hr:∀ r,row=some r→∃ o:Obj,A.heap[r]?=some o∧o.isCells=false):Blk B g t cs:=by
  refine h.grown hg (fun e=>?_)
  obtain⟨o,h1,h2⟩:=hr g e.symm
  unfold Blk at h
  rw[h] at h1
  cases h1
  cases h2
end Go.Proofs.YtiiacjladnljhaaGreatDoor
namespace Go.Proofs.YtiiacjladnljhaaGreatDoor
open Go.RowKit
def bw (x y c:Nat):Nat:=if x<y+c then 1 else 0
theorem run_Sub64 (x y b:Nat) (hb:b≤1) (w:World) :
    (callFunc 249 #[.int .u64 x,.int .u64 y,.int .u64 b]).run Tryz.prog w =
      .ok (.value (.tuple #[.int .u64 (((x+18446744073709551616 - y - b)%18446744073709551616:Nat):Int),.int .u64 ((bw x y b:Nat):Int)])) w:=by
  rw[run_callFunc_extern (Tryz.func249) (by kernel_rfl) (by kernel_rfl) (by kernel_rfl) (e:=sub64Entry) (by kernel_rfl),run_sub64 x y b hb]
  rfl
def br (a b:Nat):Nat→Nat
  | 0=>0
  | k+1=>bw (wd k a) (wd k b) (br a b k)
def sb (a b k:Nat):Nat:=(wd k a+18446744073709551616 - wd k b - br a b k)%18446744073709551616
theorem br_le (a b k:Nat):br a b k≤1:=by
  cases k with
  | zero=>exact Nat.zero_le _
  | succ k=>simp only[br,bw];split<;>omega
theorem sub_step (x y c:Nat) (hx:x<18446744073709551616) (hy:y<18446744073709551616) (hc:c≤1) :
    (x+18446744073709551616 - y - c)%18446744073709551616+y+c=x+18446744073709551616*(if x<y+c then 1 else 0)∧(x+18446744073709551616 - y - c)%18446744073709551616<18446744073709551616∧(if x<y+c then 1 else 0:Nat)≤1:=by
  split<;>omega
theorem sub_end (S A B M c:Nat) (hS:S<M) (hA:A<M) (hB:B<M) (hc:c≤1) (h:S+B=A+M*c):S=(A+M - B)%M∧c=if A<B then 1 else 0:=by
  have:c=0∨c=1:=by omega
  rcases this with rfl|rfl
  · rw[show A+M - B=S+M by omega,Nat.add_mod_right,Nat.mod_eq_of_lt hS,if_neg (by omega)]
    exact⟨rfl,rfl⟩
  · rw[show A+M - B=S by omega,Nat.mod_eq_of_lt hS,if_pos (by omega)]
    exact⟨rfl,rfl⟩
theorem sub_words (a b:Nat) (ha:a<B256) (hb:b<B256) (s0 s1 s2 s3 c1 c2 c3 c4:Nat)
    (e0:s0=(wd 0 a+18446744073709551616 - wd 0 b - 0)%18446744073709551616) (f0:c1=if wd 0 a<wd 0 b+0 then 1 else 0)
    (e1:s1=(wd 1 a+18446744073709551616 - wd 1 b - c1)%18446744073709551616) (f1:c2=if wd 1 a<wd 1 b+c1 then 1 else 0)
    (e2:s2=(wd 2 a+18446744073709551616 - wd 2 b - c2)%18446744073709551616) (f2:c3=if wd 2 a<wd 2 b+c2 then 1 else 0)
    (e3:s3=(wd 3 a+18446744073709551616 - wd 3 b - c3)%18446744073709551616) (f3:c4=if wd 3 a<wd 3 b+c3 then 1 else 0) :
    val4 s0 s1 s2 s3=(a+B256 - b)%B256∧c4=bw a b 0:=by
  have h1:=val4_wd ha
  have h2:=val4_wd hb
  have:=wd_lt 0 a;have:=wd_lt 1 a;have:=wd_lt 2 a;have:=wd_lt 3 a
  have:=wd_lt 0 b;have:=wd_lt 1 b;have:=wd_lt 2 b;have:=wd_lt 3 b
  generalize wd 0 a=a0 at *;generalize wd 1 a=a1 at *;generalize wd 2 a=a2 at *;generalize wd 3 a=a3 at *
  generalize wd 0 b=b0 at *;generalize wd 1 b=b1 at *;generalize wd 2 b=b2 at *;generalize wd 3 b=b3 at *
  obtain⟨g0,l0,m0⟩:=sub_step a0 b0 0 (by omega) (by omega) (by omega)
  rw[← e0,← f0] at g0;rw[← e0] at l0;rw[← f0] at m0
  obtain⟨g1,l1,m1⟩:=sub_step a1 b1 c1 (by omega) (by omega) (by omega)
  rw[← e1,← f1] at g1;rw[← e1] at l1;rw[← f1] at m1
  obtain⟨g2,l2,m2⟩:=sub_step a2 b2 c2 (by omega) (by omega) (by omega)
  rw[← e2,← f2] at g2;rw[← e2] at l2;rw[← f2] at m2
  obtain⟨g3,l3,m3⟩:=sub_step a3 b3 c3 (by omega) (by omega) (by omega)
  rw[← e3,← f3] at g3;rw[← e3] at l3;rw[← f3] at m3
  have key:val4 s0 s1 s2 s3+b=a+B256*c4:=by
    rw[← h1,← h2]
    clear e0 e1 e2 e3 f0 f1 f2 f3 h1 h2 ha hb l0 l1 l2 l3 m0 m1 m2 m3
    simp only[val4,B256]
    omega
  have hs:=val4_lt l0 l1 l2 l3
  clear e0 e1 e2 e3 f0 f1 f2 f3 h1 h2 g0 g1 g2 g3 l0 l1 l2 l3 m0 m1 m2
  simp only[bw,Nat.add_zero]
  exact sub_end _ _ _ _ _ hs ha hb m3 key
def subC (a b k:Nat):List Value:=[if 0<k then .int .u64 (sb a b 0:Nat) else .int .u64 0,if 1<k then .int .u64 (sb a b 1:Nat) else .int .u64 0,if 2<k then .int .u64 (sb a b 2:Nat) else .int .u64 0,if 3<k then .int .u64 (sb a b 3:Nat) else .int .u64 0]
theorem subC_get (a b:Nat) {k:Nat} (h:k<4):(subC a b k)[k]?=some (.int .u64 0):=by
  have:k=0∨k=1∨k=2∨k=3:=by omega
  rcases this with rfl|rfl|rfl|rfl<;>rfl
theorem subC_set (a b:Nat) {k:Nat} (h:k<4):(subC a b k).set k (.int .u64 (sb a b k:Nat))=subC a b (k+1):=by
  have:k=0∨k=1∨k=2∨k=3:=by omega
  rcases this with rfl|rfl|rfl|rfl<;>rfl
set_option maxRecDepth 100000 in
theorem limbs_Sub (a b:Nat) (ha:a<B256) (hbb:b<B256) (w:World) :
    Calls Tryz.prog 217 #[numV a,numV b] w fun e w'=>e=.returned (.tuple #[numV ((a+B256 - b)%B256),.int .u64 ((bw a b 0:Nat):Int)])∧Below w.heap.size w w':=by
  have hA:=run_Sub64
  go_enter Tryz.func217,Tryz.ntmps217
  go_wp2
  generalize hW:((w.alloc _).alloc _).alloc _=W
  have hg0:Blk W w.heap.size 24 (numC a):=by subst hW;exact ((Blk.new _ _ _).alloc _).alloc _
  have hg1:Blk W (w.heap.size+1) 24 (numC b):=by subst hW;exact (Blk.new' (by simp)).alloc _
  have hg2:Blk W (w.heap.size+1+1) 24 (subC a b 0):=by subst hW;exact Blk.new' (by simp)
  have hb:Below w.heap.size w W:=by subst hW;exact (((Below.refl _ _).alloc (Nat.le_refl _) _).alloc (by simp) _).alloc (by simp;omega) _
  clear hW
  go_loopw [5,7] (fun c i wr=>∃ k:Nat,k≤4∧i=.int .i64 k∧c=.int .u64 (br a b k:Nat)∧Blk wr w.heap.size 24 (numC a)∧Blk wr (w.heap.size+1) 24 (numC b)∧Blk wr (w.heap.size+1+1) 24 (subC a b k)∧Below w.heap.size w wr) (fun _ i _=>4 - (intOf i).toNat)
  case atStart=>exact⟨0,by omega,rfl,rfl,hg0,hg1,hg2,hb⟩
  case round =>
    clear hg0 hg1 hg2 hb
    obtain⟨k,hk,rfl,rfl,hg0,hg1,hg2,hb⟩:=hrel
    have hc:=br_le a b k
    by_cases hlt:k<4
    · have c0:=hg0.cell_at (numC_get a hlt)
      have c1:=hg1.cell_at (numC_get b hlt)
      have c2:=hg2.cell_at (subC_get a b hlt)
      have f2:=hg2.frozen k
      go_wp2
      have lt0:=hg0.lt
      have lt1:=hg1.lt
      have lt2:=hg2.lt
      refine Kp.wp_region_kpf [11] 13 (by kernel_rfl) (by kernel_rfl) (fun L Fin hL hFin=>?_)
      have HL:=Lib.hid hL;clear hL
      have HF:=Lib.hid hFin;clear hFin
      simp only[List.take_succ_cons,List.take_zero,List.drop_succ_cons,List.drop_zero]
      apply Exists.intro
      repeat ((first|(apply Kp.kp_free;(first|rfl|(rw[HL.out];rfl));(intro w1;go_simp;rfl))|(apply Kp.kp_now;rfl;(first|rfl|(rw[HL.out];rfl));(intro w1 hb1;obtain⟨hcw,hfw⟩:=bcell hb1;clear hb1;go_simp;rfl)));simp only[Act.put,List.setIfInBounds_toArray,List.set_cons_succ,List.set_cons_zero])
      apply Kp.kp_nil
      refine HF.out _ _ (fun w1 hb1 _=>?_)
      clear HL HF
      simp only[List.drop_succ_cons,List.drop_zero]
      have c3:=(hg2.below hb1 lt2).cell_at (subC_get a b hlt)
      have f3:=(hg2.below hb1 lt2).frozen k
      go_wp2
      refine NoPanic.normal ?_
      go_wp2
      go_roundw
      case rel =>
        refine⟨k+1,by omega,by go_num,?_,(hg0.below hb1 lt0).far (by simp;omega) _,(hg1.below hb1 lt1).far (by simp) _,?_,(hb.trans (hb1.mono hb.size)).setCell (by simp;omega) _⟩
        · simp[br]
        · rw[← subC_set a b hlt]
          exact (hg2.below hb1 lt2).set_ k _
      case measure=>simp[intOf];omega
    · obtain rfl:k=4:=by omega
      have d0:wr.cell? ⟨w.heap.size+1+1,0,none⟩=some (.int .u64 ((sb a b 0:Nat):Int)):=hg2.cell_at rfl
      have d1:wr.cell? ⟨w.heap.size+1+1,1,none⟩=some (.int .u64 ((sb a b 1:Nat):Int)):=hg2.cell_at rfl
      have d2:wr.cell? ⟨w.heap.size+1+1,2,none⟩=some (.int .u64 ((sb a b 2:Nat):Int)):=hg2.cell_at rfl
      have d3:wr.cell? ⟨w.heap.size+1+1,3,none⟩=some (.int .u64 ((sb a b 3:Nat):Int)):=hg2.cell_at rfl
      have ff:=hg2.frozen
      clear hA
      go_wp2
      have hs:=sub_words a b ha hbb (sb a b 0) (sb a b 1) (sb a b 2) (sb a b 3) (br a b 1) (br a b 2) (br a b 3) (br a b 4) rfl rfl rfl rfl rfl rfl rfl rfl
      have hlt:=fun i=>Nat.mod_lt (wd i a+18446744073709551616 - wd i b - br a b i) (show 0<18446744073709551616 by omega)
      have hv:=numV_of (hlt 0) (hlt 1) (hlt 2) (hlt 3)
      have ev:Value.agg #[.int .u64 ((sb a b 0:Nat):Int),.int .u64 ((sb a b 1:Nat):Int),.int .u64 ((sb a b 2:Nat):Int),.int .u64 ((sb a b 3:Nat):Int)]=numV ((a+B256 - b)%B256):=by rw[← hs.1];exact hv
      refine bodyPost_ret (v:=.tuple #[numV ((a+B256 - b)%B256),.int .u64 ((bw a b 0:Nat):Int)]) ?_ rfl ⟨rfl,?_⟩
      · rw[← ev,← hs.2]
        simp[results,Tryz.results217,go_sem,d0,d1,d2,d3]
      · refine ((((hb.setCell ?_ _).setCell ?_ _).setCell ?_ _).setCell ?_ _)<;>(simp;omega)
end Go.Proofs.YtiiacjladnljhaaGreatDoor
