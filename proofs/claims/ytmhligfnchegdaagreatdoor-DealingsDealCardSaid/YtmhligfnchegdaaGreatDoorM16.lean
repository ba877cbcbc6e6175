/- Part 16 of the proof: WidA, WidB, MulW -/
import Derived.Test.YtmhligfnchegdaaGreatDoorM15
import Derived.Test.YtmhligfnchegdaaGreatDoorM13
import Derived.Test.YtmhligfnchegdaaGreatDoorM07
set_option linter.unusedSimpArgs false
set_option linter.unusedVariables false
namespace Go.Proofs.YtmhligfnchegdaaGreatDoor
open Go.RowKit
attribute [local go_sem] run_eqin_num run_eqin_zero
theorem wide_step {a r0 m j:Nat} (hj:j<256) :
    remN ((r0*2 ^ j+a / 2 ^ (256 - j))%m) (bitN a (255 - j)) m=(r0*2 ^ (j+1)+a / 2 ^ (256 - (j+1)))%m:=by
  have hs:=step_bit a (255 - j)
  rw[show 255 - j+1=256 - j by omega] at hs
  unfold remN
  rw[show 256 - (j+1)=255 - j by omega,hs,Nat.pow_succ]
  generalize a / 2 ^ (256 - j)=x
  generalize bitN a (255 - j)=d
  have e:r0*(2 ^ j*2)+(x+x+d)=(r0*2 ^ j+x)+(r0*2 ^ j+x)+d:=by rw[← Nat.mul_assoc];omega
  rw[e]
  generalize r0*2 ^ j+x=y
  simp[Nat.add_mod]
theorem wide_first (r0 a m:Nat) (ha:a<B256) (hr:r0<m):(r0*2 ^ 0+a / 2 ^ (256 - 0))%m=r0:=by
  rw[Nat.div_eq_of_lt (by simpa [B256] using ha)]
  simp[Nat.mod_eq_of_lt hr]
theorem wide_last (r0 a m:Nat):(r0*2 ^ 256+a / 2 ^ (256 - 256))%m=(r0*B256+a)%m:=by simp[B256]
def pickN (hi lo i:Nat):Nat:=if i=0 then hi else lo
theorem pickN_lt {hi lo:Nat} (i:Nat) (h1:hi<B256) (h2:lo<B256):pickN hi lo i<B256:=by unfold pickN;split<;>assumption
def stgN (hi lo m:Nat):Nat→Nat
  | 0=>0
  | i+1=>(stgN hi lo m i*B256+pickN hi lo i)%m
theorem stgN_lt {hi lo m:Nat} (i:Nat) (h0:0<m):stgN hi lo m i<m:=by
  cases i with
  | zero=>exact h0
  | succ i=>exact Nat.mod_lt _ h0
theorem numC_zero:numC 0=zeroC:=rfl
abbrev twoV (hi lo:Nat):Value:=.agg #[.int .u64 ((wd 0 hi:Nat):Int),.int .u64 ((wd 1 hi:Nat):Int),.int .u64 ((wd 2 hi:Nat):Int),.int .u64 ((wd 3 hi:Nat):Int),.int .u64 ((wd 0 lo:Nat):Int),.int .u64 ((wd 1 lo:Nat):Int),.int .u64 ((wd 2 lo:Nat):Int),.int .u64 ((wd 3 lo:Nat):Int)]
theorem run_index_two0 (hi lo:Nat) (w:World):(Instr.index 299 (twoV hi lo) (.int .i64 0)).run Tryz.prog w=.ok (numV hi) w:=by kernel_rfl
theorem run_index_two1 (hi lo:Nat) (w:World):(Instr.index 299 (twoV hi lo) (.int .i64 1)).run Tryz.prog w=.ok (numV lo) w:=by kernel_rfl
theorem run_index_two (hi lo:Nat) {i:Nat} (h:i<2) (w:World):(Instr.index 299 (twoV hi lo) (.int .i64 (i:Int))).run Tryz.prog w=.ok (numV (pickN hi lo i)) w:=by
  have:i=0∨i=1:=by omega
  rcases this with rfl|rfl
  · exact run_index_two0 hi lo w
  · exact run_index_two1 hi lo w
set_option maxRecDepth 100000 in
set_option maxHeartbeats 1000000 in
theorem divides_Wide_long (lo hi m:Nat) (hlo:lo<B256) (hhi:hi<B256) (hmB:m<B256) (h0:0<m) (hs:¬ m<18446744073709551616) (w:World) :
    Calls Tryz.prog 207 #[numV lo,numV hi,numV m] w fun e w'=>e=.returned (.tuple #[numV ((hi*B256+lo)%m),.int .i64 0])∧Below w.heap.size w w':=by
  have he:=eqN_no (a:=m) (b:=0) (by omega)
  have hsh:shortN m=false:=by simp[shortN,hs]
  go_enter Tryz.func207,Tryz.ntmps207
  go_wp2_with (go_at_call 241;refine (divides_short m hmB _).mono ?_;rw[hsh];rintro e W ⟨rfl,hb1⟩;have g3:Blk W w.heap.size 24 (numC lo):=((((Blk.new _ _ _).alloc _).alloc _).alloc _).below hb1 (by simp;omega);have g4:Blk W (w.heap.size+1) 24 (numC hi):=(((Blk.new' (by simp)).alloc _).alloc _).below hb1 (by simp);have g5:Blk W (w.heap.size+1+1) 24 (numC m):=((Blk.new' (by simp)).alloc _).below hb1 (by simp);have g6:Blk W (w.heap.size+1+1+1) 24 zeroC:=(Blk.new' (by simp)).below hb1 (by simp);have hb:Ext w W:=(((((Ext.rfl' w).alloc' _).alloc' _).alloc' _).alloc' _).trans' hb1;clear hb1;have g3_0:=g3.cell_at (i:=0) rfl;have g3_1:=g3.cell_at (i:=1) rfl;have g3_2:=g3.cell_at (i:=2) rfl;have g3_3:=g3.cell_at (i:=3) rfl;have g3_f:=g3.frozen;have g3_l:=g3.lt;have g3_m:=Nat.lt_succ_of_lt g3_l;have g3_n:=Nat.lt_succ_of_lt g3_m;have g4_0:=g4.cell_at (i:=0) rfl;have g4_1:=g4.cell_at (i:=1) rfl;have g4_2:=g4.cell_at (i:=2) rfl;have g4_3:=g4.cell_at (i:=3) rfl;have g4_f:=g4.frozen;have g4_l:=g4.lt;have g4_m:=Nat.lt_succ_of_lt g4_l;have g4_n:=Nat.lt_succ_of_lt g4_m)
  clear g3 g4 g3_0 g3_1 g3_2 g3_3 g3_f g3_l g4_0 g4_1 g4_2 g4_3 g4_f g4_l
  go_loopw [44] (fun i wr=>∃ n:Nat,n≤2∧i=.int .i64 (n:Int)∧Blk wr (w.heap.size+1+1) 24 (numC m)∧Blk wr (w.heap.size+1+1+1) 24 (numC (stgN hi lo m n))∧Ext w wr) (fun i _=>2 - (intOf i).toNat)
  case atStart=>exact⟨0,by omega,rfl,g5,by rw[show stgN hi lo m 0=0 from rfl,numC_zero];exact g6,hb⟩
  case round =>
    clear g5 g6 hb
    obtain⟨n,hn,rfl,g5,g6,hb⟩:=hrel
    by_cases hlt:n<2
    · have hix:=run_index_two hi lo hlt
      have hdec:decide ((n:Int)<2)=true:=by simp;omega
      have hpk:=pickN_lt n hhi hlo
      have hst:=stgN_lt n (hi:=hi) (lo:=lo) h0
      have hnx:(stgN hi lo m n*B256+pickN hi lo n)%m=stgN hi lo m (n+1):=rfl
      generalize pickN hi lo n=a at *
      generalize stgN hi lo m n=r0 at *
      obtain⟨wo,rfl⟩ : ∃ wo:World,wo=wr:=⟨_,rfl⟩
      have g6_l:=g6.lt
      go_wp2
      go_loopw [47] (fun i wr=>∃ j:Nat,j≤256∧i=.int .i64 (j:Int)∧Blk wr (w.heap.size+1+1) 24 (numC m)∧Blk wr (w.heap.size+1+1+1) 24 (numC ((r0*2 ^ j+a / 2 ^ (256 - j))%m))∧Blk wr wo.heap.size 24 (numC a)∧Ext w wr) (fun i _=>256 - (intOf i).toNat)
      case atStart=>exact⟨0,by omega,rfl,(by ((repeat' (with_reducible first|exact g5|refine Blk.drew ?_|refine Blk.drewN ?_ _|refine Blk.far ?_ ?_ _|refine Blk.alloc ?_ _))<;>(first|omega|(simp;done)|(simp;omega)))),by rw[wide_first r0 a m hpk hst];((repeat' (with_reducible first|exact g6|refine Blk.drew ?_|refine Blk.drewN ?_ _|refine Blk.far ?_ ?_ _|refine Blk.alloc ?_ _))<;>(first|omega|(simp;done)|(simp;omega))),Blk.new' rfl,hb.alloc' _⟩
      case round =>
        clear hix g5 g6
        obtain⟨j,hj,rfl,g5,g6,g12,hb2⟩:=hrel
        by_cases hjt:j<256
        · have hjd:decide ((j:Int)<256)=true:=by simp;omega
          have hi:(255:Int) - (j:Int)=((255 - j:Nat):Int):=by omega
          have hB:=fun w=>limbs_Bit a ((255:Int) - (j:Int)) hpk (by omega) (by omega) w
          rw[show ((255:Int) - (j:Int)).toNat=255 - j by omega] at hB
          have hb1:=bitN_le a (255 - j)
          have hX:=divides_next ((r0*2 ^ j+a / 2 ^ (256 - j))%m) (bitN a (255 - j)) m (Nat.mod_lt _ h0) hmB hb1
          rw[wide_step hjt] at hX
          have hwr:IntKind.i64.wrap ((255:Int) - (j:Int))=(255:Int) - (j:Int):=by rw[IntKind.wrap_i64];omega
          generalize quoN _ _ _=Q at *
          generalize bitN a (255 - j)=B at *
          generalize (r0*2 ^ j+a / 2 ^ (256 - j))%m=r1 at *
          generalize hR:(r0*2 ^ (j+1)+a / 2 ^ (256 - (j+1)))%m=r2 at *
          have HR:=Lib.hid hR;clear hR hi
          have g5_0:=g5.cell_at (i:=0) rfl;have g5_1:=g5.cell_at (i:=1) rfl;have g5_2:=g5.cell_at (i:=2) rfl;have g5_3:=g5.cell_at (i:=3) rfl;have g5_f:=g5.frozen;have g5_l:=g5.lt;have g5_m:=Nat.lt_succ_of_lt g5_l;have g5_n:=Nat.lt_succ_of_lt g5_m
          have g6_0:=g6.cell_at (i:=0) rfl;have g6_1:=g6.cell_at (i:=1) rfl;have g6_2:=g6.cell_at (i:=2) rfl;have g6_3:=g6.cell_at (i:=3) rfl;have g6_f:=g6.frozen;have g6_l:=g6.lt;have g6_m:=Nat.lt_succ_of_lt g6_l;have g6_n:=Nat.lt_succ_of_lt g6_m
          have g12_0:=g12.cell_at (i:=0) rfl;have g12_1:=g12.cell_at (i:=1) rfl;have g12_2:=g12.cell_at (i:=2) rfl;have g12_3:=g12.cell_at (i:=3) rfl;have g12_f:=g12.frozen;have g12_l:=g12.lt;have g12_m:=Nat.lt_succ_of_lt g12_l;have g12_n:=Nat.lt_succ_of_lt g12_m
          go_wp2
          refine Kp.wp_region_kpf [9] 10 (by kernel_rfl) (by kernel_rfl) (fun L Fin hL hFin=>?_)
          have HL:=Lib.hid hL;clear hL
          have HF:=Lib.hid hFin;clear hFin
          simp only[List.take_succ_cons,List.take_zero,List.drop_succ_cons,List.drop_zero]
          apply Exists.intro
          repeat ((first|(apply Kp.kp_free;(first|rfl|(rw[HL.out];rfl));(intro w1;go_simp;rfl))|(apply Kp.kp_now;rfl;(first|rfl|(rw[HL.out];rfl));(intro w1 hb1;obtain⟨hcw,hfw⟩:=bcell hb1;clear hb1;go_simp;rfl)));simp only[Act.put,List.setIfInBounds_toArray,List.set_cons_succ,List.set_cons_zero])
          apply Kp.kp_val
          rfl
          (first|rfl|(rw[HL.out];rfl))
          (intro w1 hb1 _;obtain⟨hcw,hfw⟩:=bcell hb1;refine Kp.kyp_call (by go_simp;first|rfl|exact⟨rfl,rfl⟩) ?_;refine (hB w1).mono ?_;rintro e w2 ⟨rfl,hb2⟩;exact⟨_,rfl,rfl,hb2⟩)
          simp only[Act.put,List.setIfInBounds_toArray,List.set_cons_succ,List.set_cons_zero]
          repeat ((first|(apply Kp.kp_free;(first|rfl|(rw[HL.out];rfl));(intro w1;go_simp;rfl))|(apply Kp.kp_now;rfl;(first|rfl|(rw[HL.out];rfl));(intro w1 hb1;obtain⟨hcw,hfw⟩:=bcell hb1;clear hb1;go_simp;rfl)));simp only[Act.put,List.setIfInBounds_toArray,List.set_cons_succ,List.set_cons_zero])
          apply Kp.kp_val
          rfl
          (first|rfl|(rw[HL.out];rfl))
          (intro w1 hb1 _;obtain⟨hcw,hfw⟩:=bcell hb1;refine Kp.kyp_call (by go_simp;first|rfl|exact⟨rfl,rfl⟩) ?_;refine (hX w1).mono ?_;rintro e w2 ⟨rfl,hb2⟩;exact⟨_,rfl,rfl,hb2⟩)
          simp only[Act.put,List.setIfInBounds_toArray,List.set_cons_succ,List.set_cons_zero]
          repeat ((first|(apply Kp.kp_free;(first|rfl|(rw[HL.out];rfl));(intro w1;go_simp;rfl))|(apply Kp.kp_now;rfl;(first|rfl|(rw[HL.out];rfl));(intro w1 hb1;obtain⟨hcw,hfw⟩:=bcell hb1;clear hb1;go_simp;rfl)));simp only[Act.put,List.setIfInBounds_toArray,List.set_cons_succ,List.set_cons_zero])
          apply Kp.kp_nil
          refine HF.out _ _ (fun w1 hb1 _=>?_)
          clear HL HF
          simp only[List.drop_succ_cons,List.drop_zero]
          replace g5:=g5.below hb1 g5_l
          replace g6:=g6.below hb1 g6_l
          replace g12:=g12.below hb1 g12_l
          replace hb2:=hb2.trans' hb1
          clear hb1 g5_0 g5_1 g5_2 g5_3 g5_f g5_l g6_0 g6_1 g6_2 g6_3 g6_f g6_l g12_0 g12_1 g12_2 g12_3 g12_f g12_l
          have g6_0:=g6.cell_at (i:=0) rfl;have g6_1:=g6.cell_at (i:=1) rfl;have g6_2:=g6.cell_at (i:=2) rfl;have g6_3:=g6.cell_at (i:=3) rfl;have g6_f:=g6.frozen;have g6_l:=g6.lt;have g6_m:=Nat.lt_succ_of_lt g6_l;have g6_n:=Nat.lt_succ_of_lt g6_m
          go_wp2
          refine NoPanic.normal ?_
          go_wp2
          go_roundw
          case rel =>
            have hsz:=hb2.size
            have hsw:=hb.size
            have hne:w.heap.size+1+1+1<wo.heap.size:=by omega
            refine⟨j+1,by omega,by go_num,(by ((repeat' (with_reducible first|exact g5|refine Blk.drew ?_|refine Blk.drewN ?_ _|refine Blk.far ?_ ?_ _|refine Blk.alloc ?_ _))<;>(first|omega|(simp;done)|(simp;omega)))),?_,(by ((repeat' (with_reducible first|exact g12|refine Blk.drew ?_|refine Blk.drewN ?_ _|refine Blk.far ?_ ?_ _|refine Blk.alloc ?_ _))<;>(first|omega|(simp;done)|(simp;omega)))),(by ((repeat' (with_reducible first|exact hb2|refine Below.drew ?_|refine Below.drewN' ?_ _|refine Below.setCell ?_ ?_ _|refine Below.alloc ?_ ?_ _))<;>(first|omega|(simp;done)|(simp;omega))))⟩
            rw[HR.out]
            ((repeat' (with_reducible first|exact g6|refine Blk.drew ?_|refine Blk.drewN ?_ _|apply Blk.put4|refine Blk.far ?_ ?_ _|refine Blk.alloc ?_ _))<;>(first|omega|(simp;done)|(simp;omega)))
          case measure=>first|(simp[intOf];done)|(simp[intOf];omega)
        · obtain rfl:j=256:=by omega
          have hjd:decide (((256:Nat):Int)<256)=false:=by simp
          go_wp2
          go_roundw
          case rel =>
            refine⟨n+1,by omega,by go_num,g5,?_,hb2⟩
            rw[wide_last,hnx] at g6
            exact g6
          case measure=>first|(simp[intOf];done)|(simp[intOf];omega)
    · obtain rfl:n=2:=by omega
      have hst:stgN hi lo m 2=(hi*B256+lo)%m:=by
        simp only[stgN,pickN,if_true,Nat.zero_mul,Nat.zero_add,Nat.one_ne_zero,if_false]
        rw[Nat.add_mod,Nat.mul_mod,Nat.mod_mod,← Nat.mul_mod,← Nat.add_mod]
      rw[hst] at g6
      have hdec:decide (((2:Nat):Int)<2)=false:=by simp
      have g6_0:=g6.cell_at (i:=0) rfl;have g6_1:=g6.cell_at (i:=1) rfl;have g6_2:=g6.cell_at (i:=2) rfl;have g6_3:=g6.cell_at (i:=3) rfl;have g6_f:=g6.frozen;have g6_l:=g6.lt;have g6_m:=Nat.lt_succ_of_lt g6_l;have g6_n:=Nat.lt_succ_of_lt g6_m
      have hsz:=hb.size
      go_wp2
      refine bodyPost_ret (v:=.tuple #[numV ((hi*B256+lo)%m),.int .i64 0]) ?_ rfl ⟨rfl,?_⟩
      · simp[results,Tryz.results207,go_sem,g6_0,g6_1,g6_2,g6_3]
      · ((repeat' (with_reducible first|exact hb|refine Below.drew ?_|refine Below.drewN' ?_ _|refine Below.setCell ?_ ?_ _|refine Below.alloc ?_ ?_ _))<;>(first|omega|(simp;done)|(simp;omega)))
end Go.Proofs.YtmhligfnchegdaaGreatDoor
namespace Go.Proofs.YtmhligfnchegdaaGreatDoor
open Go.RowKit Go.Shelf
attribute [local go_sem] run_eqin_num run_eqin_zero
attribute [local go_sem] Oper.semAt_some
theorem add_at (g j:Nat):Addr.add ⟨g,0,none⟩ j=⟨g,j,none⟩:=by unfold Addr.add;split<;>simp_all
theorem mod_step (a b K m:Nat):(a%m*K+b)%m=(a*K+b)%m:=by rw[Nat.add_mod,Nat.mul_mod,Nat.mod_mod,← Nat.mul_mod,← Nat.add_mod]
def foldG (K m:Nat) (l:List (Nat × U64)):Nat:=l.foldl (fun r x=>(r*K+x.2.1)%m) 0
theorem foldG_snoc (K m:Nat) (l:List (Nat × U64)) (x:Nat × U64):foldG K m (l++[x])=(foldG K m l*K+x.2.1)%m:=by
  unfold foldG
  rw[List.foldl_append]
  rfl
theorem foldG_eight (K m:Nat) (x0 x1 x2 x3 x4 x5 x6 x7:Nat × U64):foldG K m [x0,x1,x2,x3,x4,x5,x6,x7]=((((((((0*K+x0.2.1)*K+x1.2.1)*K+x2.2.1)*K+x3.2.1)*K+x4.2.1)*K+x5.2.1)*K+x6.2.1)*K+x7.2.1)%m:=by
  simp only[foldG,List.foldl_cons,List.foldl_nil,mod_step]
def foldW (m:Nat) (l:List (Nat × U64)):Nat:=foldG 18446744073709551616 m l
theorem foldW_snoc (m:Nat) (l:List (Nat × U64)) (x:Nat × U64):foldW m (l++[x])=(foldW m l*18446744073709551616+x.2.1)%m:=foldG_snoc _ m l x
theorem foldW_lt (m:Nat) (h0:0<m) (l:List (Nat × U64)):foldW m l<m:=by
  rcases List.eq_nil_or_concat l with rfl|⟨l,x,rfl⟩
  · exact h0
  · rw[List.concat_eq_append,foldW_snoc];exact Nat.mod_lt _ h0
def wordU (i n:Nat):U64:=⟨wd i n,wd_lt i n⟩
def wordsU (lo hi:Nat):List U64:=[wordU 0 lo,wordU 1 lo,wordU 2 lo,wordU 3 lo,wordU 0 hi,wordU 1 hi,wordU 2 hi,wordU 3 hi]
theorem foldW_all (lo hi m:Nat) (hlo:lo<B256) (hhi:hi<B256):foldW m (upto (backF (wordsU lo hi)) 8)=(hi*B256+lo)%m:=by
  have e:upto (backF (wordsU lo hi)) 8=[(7,wordU 3 hi),(6,wordU 2 hi),(5,wordU 1 hi),(4,wordU 0 hi),(3,wordU 3 lo),(2,wordU 2 lo),(1,wordU 1 lo),(0,wordU 0 lo)]:=rfl
  have h1:=val4_wd hlo
  have h2:=val4_wd hhi
  rw[e]
  unfold foldW
  rw[foldG_eight]
  simp only[wordU]
  generalize wd 0 hi=a0 at *;generalize wd 1 hi=a1 at *;generalize wd 2 hi=a2 at *;generalize wd 3 hi=a3 at *
  generalize wd 0 lo=b0 at *;generalize wd 1 lo=b1 at *;generalize wd 2 lo=b2 at *;generalize wd 3 lo=b3 at *
  have e2:(((((((0*18446744073709551616+a3)*18446744073709551616+a2)*18446744073709551616+a1)*18446744073709551616+a0)*18446744073709551616+b3)*18446744073709551616+b2)*18446744073709551616+b1)*18446744073709551616+b0=hi*B256+lo:=by
    rw[← h1,← h2]
    simp only[val4,B256]
    omega
  rw[e2]
theorem Blk.far' {w:World} {g D:Nat} {t:TypeId} {cs:List Value} {o:Obj} (h:Blk w g t cs) (hD:D≠g):Blk (w.putObj D o) g t cs:=h.grown (grownBy_putObj' w D o) (fun e=>hD (by cases e;rfl))
theorem owned_words {B:Nat} {w:World} {e:TypeId} {v:Value} {lo hi:Nat} (h:w.ownsRow B e 1 v ((numC lo).length+(numC hi).length) (numC lo++numC hi)) :
    ∃ g cap,v=.slice (some ⟨g,0,none⟩) 8 cap∧B≤g∧g<w.heap.size∧∀ j,j<8→w.cell? ⟨g,j,none⟩=some (.int .u64 (((wordsU lo hi)[j]?.getD default).1:Int)):=by
  rcases h.2 with ⟨_,h0⟩|⟨g,cap,cur,rfl,hB,hh,hnc,hcm,hcs,ht⟩
  · simp at h0
  · refine⟨g,cap,rfl,hB,(Array.getElem?_eq_some_iff.1 hh).1,fun j hj=>?_⟩
    rw[cell_of_row w g j cur e (0,0) hh]
    have hq:cur.toList[j]?=(numC lo++numC hi)[j]?:=by
      rw[← ht,List.getElem?_take,if_pos (by simp;omega)]
    rw[← Array.getElem?_toList,hq]
    have:j=0∨j=1∨j=2∨j=3∨j=4∨j=5∨j=6∨j=7:=by omega
    rcases this with rfl|rfl|rfl|rfl|rfl|rfl|rfl|rfl<;>rfl
set_option maxRecDepth 100000 in
set_option maxHeartbeats 2000000 in
theorem divides_Wide_short (lo hi m:Nat) (hlo:lo<B256) (hhi:hi<B256) (h0:0<m) (hs:m<18446744073709551616) (w:World) :
    Calls Tryz.prog 207 #[numV lo,numV hi,numV m] w fun e w'=>e=.returned (.tuple #[numV ((hi*B256+lo)%m),.int .i64 0])∧Below w.heap.size w w':=by
  have hmB:m<B256:=B64_lt m hs
  have he:=eqN_no (a:=m) (b:=0) (by omega)
  have hsh:shortN m=true:=by simp[shortN,hs]
  refine (callsIn_wide (n:=3)).1 ?_
  refine callsIn_of_wp_marks Tryz.func207 rfl trivial ?_ rfl
  simp only[Tryz.ntmps207,List.size_toArray,List.length_cons,List.length_nil,Nat.reduceAdd,Nat.reduceSub,Array.replicate_succ,Array.replicate_zero,List.push_toArray,List.append_toArray,List.nil_append,List.cons_append]
  refine wpIn_wide.2 ?_
  go_wp2_with (go_at_call 241;refine (divides_short m hmB _).mono ?_;rw[hsh];rintro e W ⟨rfl,hb1⟩;have g3:Blk W w.heap.size 24 (numC lo):=((((Blk.new _ _ _).alloc _).alloc _).alloc _).below hb1 (by simp;omega);have g4:Blk W (w.heap.size+1) 24 (numC hi):=(((Blk.new' (by simp)).alloc _).alloc _).below hb1 (by simp);have g5:Blk W (w.heap.size+1+1) 24 (numC m):=((Blk.new' (by simp)).alloc _).below hb1 (by simp);have g6:Blk W (w.heap.size+1+1+1) 24 zeroC:=(Blk.new' (by simp)).below hb1 (by simp);have hb:Ext w W:=(((((Ext.rfl' w).alloc' _).alloc' _).alloc' _).alloc' _).trans' hb1;clear hb1)
  have lt3:=g3.lt
  have lt4:=g4.lt
  refine Kp.wp_region_kpl 2 (by kernel_rfl) (by kernel_rfl) (fun L Fin hL hFin=>?_)
  have HL:=Lib.hid hL;clear hL
  have HF:=Lib.hid hFin;clear hFin
  simp only[List.take_succ_cons,List.take_zero,List.drop_succ_cons,List.drop_zero]
  apply Exists.intro
  repeat ((first|(apply Kp.kp_free;(first|rfl|(rw[HL.out];rfl));(intro w1;go_simp;rfl))|(apply Kp.kp_now;rfl;(first|rfl|(rw[HL.out];rfl));(intro w1 hb1;obtain⟨hcw,hfw⟩:=bcell hb1;clear hb1;go_simp;rfl)));simp only[Act.put,List.setIfInBounds_toArray,List.set_cons_succ,List.set_cons_zero])
  apply Kp.kp_nil
  refine HF.out _ _ (fun w1 hb1 _=>?_)
  clear HL HF
  simp only[List.drop_succ_cons,List.drop_zero]
  replace g3:=g3.below hb1 lt3
  replace g4:=g4.below hb1 lt4
  replace g5:=g5.below hb1 g5.lt
  replace g6:=g6.below hb1 g6.lt
  replace hb:=hb.trans' hb1
  clear hb1 lt3 lt4
  have l6:=g6.lt
  have r3:Rd w1 (.slice (some ⟨w.heap.size,0,none⟩) 4 4) (numC lo):=⟨by simp[Value.oneCell'],.inr ⟨_,_,rfl,g3.lt,fun j u hj=>by rw[add_at];exact g3.cell_at hj⟩⟩
  have r4:Rd w1 (.slice (some ⟨w.heap.size+1,0,none⟩) 4 4) (numC hi):=⟨by simp[Value.oneCell'],.inr ⟨_,_,rfl,g4.lt,fun j u hj=>by rw[add_at];exact g4.cell_at hj⟩⟩
  go_wp2_with (first|(go_at_call 242;refine (slices_Concat_u64 _ _ _ _ w1.heap.size 2 _ (r3.below rfl ((Below.refl _ _).alloc (Nat.le_refl _) _)) (r4.below rfl ((Below.refl _ _).alloc (Nat.le_refl _) _)) (Blk.new' rfl) (by simp) (by simp)).mono ?_;rintro e W2 ⟨v,rfl,hown,hb2⟩;obtain⟨g,cap,rfl,hgB,hgl,hcells⟩:=owned_words hown;replace g5:Blk W2 (w.heap.size+1+1) 24 (numC m):=(g5.alloc _).below hb2 (by have:=g5.lt;simp;omega);replace g6:Blk W2 (w.heap.size+1+1+1) 24 zeroC:=(g6.alloc _).below hb2 (by have:=g6.lt;simp;omega);replace hb:Ext w W2:=(hb.alloc' _).trans' hb2;clear hb2 hown r3 r4 g3 g4)|(go_at_call 243;refine (slices_Backward _ _ _ _).mono ?_;rintro e W3 ⟨rfl,rfl⟩))
  have hbx:(W2.alloc (.cells #[.slice (some ⟨g,0,none⟩) 8 cap] 266)).cell? ⟨W2.heap.size,0,none⟩=some (.slice (some ⟨g,0,none⟩) 8 cap):=(Blk.new W2 266 [.slice (some ⟨g,0,none⟩) 8 cap]).cell_at (i:=0) rfl
  have hcx:∀ j,j<(wordsU lo hi).length→(W2.alloc (.cells #[.slice (some ⟨g,0,none⟩) 8 cap] 266)).cell? ⟨g,j,none⟩=some (.int .u64 (((wordsU lo hi)[j]?.getD default).1:Int)):=fun j hj=>(((Ext.rfl' W2).alloc' _).cell (p:=⟨g,j,none⟩) hgl).trans (hcells j hj)
  generalize hW3:W2.alloc (.cells #[.slice (some ⟨g,0,none⟩) 8 cap] 266)=W3 at *
  have g5' : Blk W3 (w.heap.size+1+1) 24 (numC m):=by subst hW3;exact g5.alloc _
  have g6' : Blk W3 (w.heap.size+1+1+1) 24 (oneC (foldW m [])):=by subst hW3;exact g6.alloc _
  have hb' : Ext w W3:=by subst hW3;exact hb.alloc' _
  have hs3:W3.heap.size=W2.heap.size+1:=by subst hW3;simp
  have h6l:=g6.lt
  have hg6:w.heap.size+1+1+1<g:=by simp at hgB;omega
  clear hW3 g5 g6 hb hcells
  refine (wpIn_wide (n:=3)).1 ?_
  refine wpIn_rangeFunc_ownF (F:=Fence.wide) rfl (by omega) (gf:=270) (lb:=#[.pointer (some ⟨W2.heap.size,0,none⟩)]) rfl trivial (enters_of Tryz.func270 (by kernel_rfl) rfl)
    (backward_stops (3 - 1) (by omega) W2.heap.size g cap (wordsU lo hi) (by simp[wordsU]) W3 (by omega) (by omega) hbx hcx) Keep2.trans (Keep2.put (by omega) (by omega)) (Below.refl _ _) (fun _=>rfl)
    (fun pre W=>((Blk W (w.heap.size+1+1) 24 (numC m)∧Blk W (w.heap.size+1+1+1) 24 (oneC (foldW m pre)))∧W3.heap.size≤W.heap.size)∧Below w.heap.size w W)
    (fun _ _ _=>False)
    (OwnFrom.and (Own.from (fun s A B row hs hg hr=>⟨⟨hs.1.1.own hg hr,hs.1.2.own hg hr⟩,Nat.le_trans hs.2 hg.size⟩) _) (ownFrom_below (Nat.le_refl _) (by omega)))
    (fun _ _ _ _ _ hs _ _=>hs)
    ⟨⟨⟨g5',g6'⟩,Nat.le_refl _⟩,hb'⟩
    ?a1 ?assign ?body ?done ?stop
  case assign =>
    intro l x W K hK
    gi_wp2
    exact hK
  case body =>
    rintro l pre x W ⟨⟨⟨g5,g6⟩,hW3⟩,hB⟩ _
    have hD:=bits_Div64 (foldW m pre) x.2.1 m x.2.2 hs (foldW_lt m h0 pre)
    rw[← foldW_snoc] at hD
    have hle:=x.2.2
    have hlf:=foldW_lt m h0 pre
    generalize hsn:foldW m (pre++[x])=r' at *
    generalize foldW m pre=r at *
    have hm0:wd 0 m=m:=Nat.mod_eq_of_lt hs
    have c5:=g5.cell_at (i:=0) rfl
    rw[hm0] at c5
    have c6:=g6.cell_at (i:=0) rfl
    have f6:=g6.frozen 0
    have HS:=Lib.hid hsn
    clear hm0 hsn
    have l5:=g5.lt
    have l6:=g6.lt
    gi_wp2_with (refine⟨trivial,?_⟩;gi_at_call 234;refine (CallsIn.inRound l (callsIn_wide.2 (hD _))).mono ?_;rintro e w2 ⟨rfl,hb2⟩;have c6':=(g6.below hb2 l6).cell_at (i:=0) rfl;have f6':=(g6.below hb2 l6).frozen 0)
    have hsz:=hB.size
    refine⟨(keeps_of_ext hb2).trans (KeepsOthers.setCell _ _ _),⟨?_,?_⟩,⟨⟨?_,?_⟩,?_⟩,?_⟩
    · exact (Below.heap_setCell _ _ _ _ (by show g≠w.heap.size+1+1+1;omega)).trans (hb2.block _ (by omega))
    · exact (Below.heap_setCell _ _ _ _ (by show W2.heap.size≠w.heap.size+1+1+1;omega)).trans (hb2.block _ (by omega))
    · have:=g5.below hb2 l5
      ((repeat' (with_reducible first|exact this|refine Blk.drew ?_|refine Blk.drewN ?_ _|refine Blk.far ?_ ?_ _|refine Blk.alloc ?_ _))<;>(first|omega|(simp;done)|(simp;omega)))
    · rw[HS.out]
      exact (g6.below hb2 l6).set_ 0 _
    · have:=hb2.size
      simp;omega
    · exact (hB.trans (hb2.mono hB.size)).setCell (by show _≤w.heap.size+1+1+1;omega) _
  case done =>
    rintro D ys W hD rfl ⟨⟨⟨g5,g6⟩,hW3⟩,hB⟩ hK
    rw[show (wordsU lo hi).length=8 from rfl,foldW_all lo hi m hlo hhi] at g6
    rw[oneC_num (Nat.lt_trans (Nat.mod_lt _ h0) hs)] at g6
    generalize hR:(hi*B256+lo)%m=R at *
    have g6_0:=g6.cell_at (i:=0) rfl;have g6_1:=g6.cell_at (i:=1) rfl;have g6_2:=g6.cell_at (i:=2) rfl;have g6_3:=g6.cell_at (i:=3) rfl;have g6_f:=g6.frozen;have g6_l:=g6.lt;have g6_m:=Nat.lt_succ_of_lt g6_l;have g6_n:=Nat.lt_succ_of_lt g6_m
    have HR:=Lib.hid hR
    clear hR
    gi_wp2
    go_wp2
    generalize hW4:(((W.setCell _ _).setCell _ _).setCell _ _).setCell _ _=W4
    have k6:Blk W4 (w.heap.size+1+1+1) 24 (numC R):=by subst hW4;exact g6.put4 _ _ _ _
    have hD6:D≠w.heap.size+1+1+1:=by omega
    have hK4:W4.heap[D]?=some (.deferred (some [])):=by
      subst hW4
      rw[Below.heap_setCell _ _ _ _ hD6,Below.heap_setCell _ _ _ _ hD6,Below.heap_setCell _ _ _ _ hD6,Below.heap_setCell _ _ _ _ hD6]
      exact hK
    have hB4:Below w.heap.size w W4:=by
      have hsz:=hB.size
      subst hW4
      ((repeat' (with_reducible first|exact hB|refine Below.drew ?_|refine Below.drewN' ?_ _|refine Below.setCell ?_ ?_ _|refine Below.alloc ?_ ?_ _))<;>(first|omega|(simp;done)|(simp;omega)))
    clear hW4
    refine⟨by simp,.inl ⟨_,_,rfl,run_takeDeferred hK4,?_⟩⟩
    have k7:=k6.far' (o:=.deferred none) hD6
    have k7_0:=k7.cell_at (i:=0) rfl;have k7_1:=k7.cell_at (i:=1) rfl;have k7_2:=k7.cell_at (i:=2) rfl;have k7_3:=k7.cell_at (i:=3) rfl;have k7_f:=k7.frozen;have k7_l:=k7.lt;have k7_m:=Nat.lt_succ_of_lt k7_l;have k7_n:=Nat.lt_succ_of_lt k7_m
    refine⟨.tuple #[numV R,.int .i64 0],?_,by rw[HR.out],hB4.trans (belowK_b (w:=w) (Nat.le_refl _) W4 D _ _ (by omega) hK4 rfl rfl)⟩
    simp[results,Tryz.results207,go_sem,k7_0,k7_1,k7_2,k7_3]
  case stop =>
    rintro D c pre W _ _ h _
    exact h.elim
theorem divides_Wide (lo hi m:Nat) (hlo:lo<B256) (hhi:hi<B256) (hm:m<B256) (h0:0<m) (w:World) :
    Calls Tryz.prog 207 #[numV lo,numV hi,numV m] w fun e w'=>e=.returned (.tuple #[numV ((hi*B256+lo)%m),.int .i64 0])∧Below w.heap.size w w':=by
  by_cases hs:m<18446744073709551616
  · exact divides_Wide_short lo hi m hlo hhi h0 hs w
  · exact divides_Wide_long lo hi m hlo hhi hm h0 hs w
end Go.Proofs.YtmhligfnchegdaaGreatDoor
namespace Go.Proofs.YtmhligfnchegdaaGreatDoor
def WB:Nat:=18446744073709551616
def valL:List Nat→Nat
  | []=>0
  | x::l=>x+WB*valL l
theorem valL_set:∀ (l:List Nat) (j v:Nat),j<l.length→valL (l.set j v)+l.getD j 0*WB ^ j=valL l+v*WB ^ j
  | [],_,_,h=>by simp at h
  | x::l,0,v,_=>by simp[valL];omega
  | x::l,j+1,v,h=>by
    have ih:=valL_set l j v (by simpa using h)
    simp only[List.set_cons_succ,valL,List.getD_cons_succ,Nat.pow_succ']
    have h1:WB*(valL (l.set j v)+l.getD j 0*WB ^ j)=WB*(valL l+v*WB ^ j):=by rw[ih]
    rw[Nat.mul_add,Nat.mul_add] at h1
    rw[show l.getD j 0*(WB*WB ^ j)=WB*(l.getD j 0*WB ^ j) by rw[Nat.mul_left_comm],show v*(WB*WB ^ j)=WB*(v*WB ^ j) by rw[Nat.mul_left_comm]]
    omega
theorem valL_zeros (n:Nat):valL (List.replicate n 0)=0:=by
  induction n with
  | zero=>rfl
  | succ n ih=>simp[List.replicate_succ,valL,ih]
def part (a:Nat):Nat→Nat
  | 0=>0
  | k+1=>part a k+wd k a*WB ^ k
theorem part_four {a:Nat} (h:a<B256):part a 4=a:=by
  have:=val4_wd h
  simp only[part,val4,WB] at *
  omega
def MulInv (a b i k more:Nat) (l:List Nat):Prop :=
  l.length=8∧(∀ x∈l,x<18446744073709551616)∧more<18446744073709551616∧(∀ j,i+4≤j→l.getD j 0=0) ∧
  valL l+more*WB ^ (i+k)=part a i*b+wd i a*part b k*WB ^ i
theorem MulInv.step {a b i k more:Nat} {l:List Nat} (h:MulInv a b i k more l) (hi:i<4) (hk:k<4) :
    MulInv a b i (k+1) ((wd i a*wd k b+l.getD (i+k) 0+more) / 18446744073709551616) (l.set (i+k) ((wd i a*wd k b+l.getD (i+k) 0+more)%18446744073709551616)):=by
  obtain⟨h1,h2,h3,h4,h5⟩:=h
  have hx:=wd_lt i a
  have hy:=wd_lt k b
  have hl:l.getD (i+k) 0<18446744073709551616:=by
    rw[List.getD_eq_getElem?_getD,List.getElem?_eq_getElem (by omega),Option.getD_some]
    exact h2 _ (List.getElem_mem _)
  have hm:wd i a*wd k b≤18446744073709551615*18446744073709551615:=Nat.mul_le_mul (by omega) (by omega)
  have hdm:=Nat.div_add_mod (wd i a*wd k b+l.getD (i+k) 0+more) 18446744073709551616
  refine⟨by simp[h1],fun x hx'=>?_,?_,fun j hj=>?_,?_⟩
  · rcases List.mem_or_eq_of_mem_set hx' with h|h
    · exact h2 x h
    · rw[h];exact Nat.mod_lt _ (by omega)
  · generalize wd i a*wd k b=p at *
    omega
  · rw[List.getD_eq_getElem?_getD,List.getElem?_set_ne (by omega),← List.getD_eq_getElem?_getD]
    exact h4 j hj
  · have hs:=valL_set l (i+k) ((wd i a*wd k b+l.getD (i+k) 0+more)%18446744073709551616) (by omega)
    generalize (wd i a*wd k b+l.getD (i+k) 0+more) / 18446744073709551616=H at *
    generalize (wd i a*wd k b+l.getD (i+k) 0+more)%18446744073709551616=L at *
    generalize valL (l.set (i+k) L)=V' at *
    generalize l.getD (i+k) 0=c at *
    have e1:H*WB ^ (i+(k+1))=(WB*H)*WB ^ (i+k):=by
      rw[show i+(k+1)=(i+k)+1 by omega,Nat.pow_succ',← Nat.mul_assoc,Nat.mul_comm H WB]
    have e2:(18446744073709551616*H+L)*WB ^ (i+k)=(wd i a*wd k b+c+more)*WB ^ (i+k):=by rw[hdm]
    rw[Nat.add_mul,Nat.add_mul,Nat.add_mul] at e2
    have e3:wd i a*part b (k+1)*WB ^ i=wd i a*part b k*WB ^ i+wd i a*wd k b*WB ^ (i+k):=by
      simp only[part]
      rw[Nat.mul_add,Nat.add_mul]
      congr 1
      rw[Nat.pow_add,Nat.mul_assoc,Nat.mul_assoc,Nat.mul_assoc,Nat.mul_comm (WB ^ k) (WB ^ i)]
    rw[e1,e3]
    have e4:WB*H=18446744073709551616*H:=rfl
    rw[e4]
    omega
theorem MulInv.next {a b i more:Nat} {l:List Nat} (h:MulInv a b i 4 more l) (hb:b<B256) (hi:i<4):MulInv a b (i+1) 0 0 (l.set (i+4) more):=by
  obtain⟨h1,h2,h3,h4,h5⟩:=h
  have hs:=valL_set l (i+4) more (by omega)
  rw[h4 (i+4) (by omega)] at hs
  refine⟨by simp[h1],fun x hx=>?_,by omega,fun j hj=>?_,?_⟩
  · rcases List.mem_or_eq_of_mem_set hx with h|h
    · exact h2 x h
    · rw[h];exact h3
  · rw[List.getD_eq_getElem?_getD,List.getElem?_set_ne (by omega),← List.getD_eq_getElem?_getD]
    exact h4 j (by omega)
  · rw[part_four hb] at h5
    simp only[part,Nat.zero_mul,Nat.mul_zero,Nat.add_zero] at hs ⊢
    rw[Nat.add_mul,hs,h5,Nat.mul_assoc,Nat.mul_comm b,← Nat.mul_assoc]
theorem MulInv.start (a b:Nat):MulInv a b 0 0 0 (List.replicate 8 0):=by
  refine⟨rfl,fun x hx=>?_,by omega,fun j _=>?_,?_⟩
  · rw[List.eq_of_mem_replicate hx];omega
  · have:∀ (n j:Nat),(List.replicate n 0).getD j 0=0:=by
      intro n j
      rw[List.getD_eq_getElem?_getD,List.getElem?_replicate]
      split<;>rfl
    exact this 8 j
  · rw[valL_zeros];simp[part]
theorem mul_end {a b:Nat} {l:List Nat} (h:MulInv a b 4 0 0 l) (ha:a<B256) :
    val4 (l.getD 0 0) (l.getD 1 0) (l.getD 2 0) (l.getD 3 0)=a*b%B256∧val4 (l.getD 4 0) (l.getD 5 0) (l.getD 6 0) (l.getD 7 0)=a*b / B256:=by
  obtain⟨h1,h2,_,_,h5⟩:=h
  rw[part_four ha] at h5
  match l,h1 with
  | [x0,x1,x2,x3,x4,x5,x6,x7],_ =>
    have b0:=h2 x0 (by simp);have b1:=h2 x1 (by simp);have b2:=h2 x2 (by simp);have b3:=h2 x3 (by simp)
    simp only[part,Nat.zero_mul,Nat.mul_zero,Nat.add_zero] at h5
    rw[← h5]
    have hlo:=val4_lt b0 b1 b2 b3
    have e:valL [x0,x1,x2,x3,x4,x5,x6,x7]=val4 x0 x1 x2 x3+B256*val4 x4 x5 x6 x7:=by
      simp only[valL,WB,val4,B256];omega
    rw[e]
    show val4 x0 x1 x2 x3=_∧val4 x4 x5 x6 x7=_
    have hp:0<B256:=by unfold B256;omega
    rw[Nat.add_mul_mod_self_left,Nat.mod_eq_of_lt hlo,Nat.add_mul_div_left _ _ hp,Nat.div_eq_of_lt hlo]
    exact⟨rfl,by omega⟩
end Go.Proofs.YtmhligfnchegdaaGreatDoor
