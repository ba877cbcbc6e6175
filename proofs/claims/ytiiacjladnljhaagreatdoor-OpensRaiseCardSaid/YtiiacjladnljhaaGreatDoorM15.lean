/- Part 15 of the proof: DivD, DivE, WidA -/
import Derived.Test.YtiiacjladnljhaaGreatDoorM14
import Derived.Deep.LoopGhost
import Derived.WalkMore
set_option linter.unusedSimpArgs false
set_option linter.unusedVariables false
namespace Go.Proofs.YtiiacjladnljhaaGreatDoor
open Go.RowKit
attribute [local go_sem] run_eqin_num run_eqin_zero
theorem topC_set (D m:Nat) (h:m<256):(numC (topN D (m+1))).set (m / 64) (.int .u64 ((wd (m / 64) (topN D m):Nat):Int))=numC (topN D m):=by
  have:m / 64=0∨m / 64=1∨m / 64=2∨m / 64=3:=by omega
  have ho:=fun j (h1:j<4) (h2:j≠m / 64)=>topN_other D m h1 h2
  rcases this with e|e|e|e<;>rw[e] at ho ⊢<;>simp[numC,ho]
theorem or_cell (x Q m:Nat) (hx:x<18446744073709551616) (hQ:Q≤1):bits .or .u64 (x:Int) (IntKind.u64.wrap ((Q:Int)*2 ^ min (m%64) 64))=((x ||| Q*2 ^ (m%64):Nat):Int):=by
  have h1:m%64<64:=Nat.mod_lt _ (by omega)
  have h2:Q*2 ^ (m%64)<18446744073709551616:=by
    have:2 ^ (m%64)≤2 ^ 63:=Nat.pow_le_pow_right (by omega) (by omega)
    have h3:Q*2 ^ (m%64)≤1*2 ^ (m%64):=Nat.mul_le_mul_right _ hQ
    have h4:(2:Nat) ^ 63=9223372036854775808:=by decide
    omega
  rw[Nat.min_eq_left (by omega),show ((Q:Int)*2 ^ (m%64))=((Q*2 ^ (m%64):Nat):Int) by simp,wrapN_lt h2,u64_or_nat _ _ hx h2]
set_option maxRecDepth 100000 in
set_option maxHeartbeats 1000000 in
theorem divides_Div_long (a b:Nat) (ha:a<B256) (hbB:b<B256) (h0:0<b) (hs:¬ b<18446744073709551616) (w:World) :
    Calls Tryz.prog 275 #[numV a,numV b] w fun e w'=>e=.returned (.tuple #[numV (a / b),numV (a%b),.int .i64 0])∧Below w.heap.size w w':=by
  have he:=eqN_no (a:=b) (b:=0) (by omega)
  have hsh:shortN b=false:=by simp[shortN,hs]
  have hN:bitsN a≤256:=bitsN_le (by simpa [B256] using ha)
  have hlt:=lt_bitsN a
  have hBits:=fun w=>limbs_Bits a ha w
  generalize bitsN a=N at *
  go_enter Tryz.func275,Tryz.ntmps275
  go_wp2_with (first|(go_at_call 252;refine (divides_short b hbB _).mono ?_;rw[hsh];rintro e W ⟨rfl,hb1⟩;have hg2:Blk W w.heap.size 24 (numC a):=((((Blk.new _ _ _).alloc _).alloc _).alloc _).below hb1 (by simp;omega);have hg3:Blk W (w.heap.size+1) 24 (numC b):=(((Blk.new' (by simp)).alloc _).alloc _).below hb1 (by simp);have hg4:Blk W (w.heap.size+1+1) 24 zeroC:=((Blk.new' (by simp)).alloc _).below hb1 (by simp);have hg5:Blk W (w.heap.size+1+1+1) 24 zeroC:=(Blk.new' (by simp)).below hb1 (by simp);have hb:Ext w W:=(((((Ext.rfl' w).alloc' _).alloc' _).alloc' _).alloc' _).trans' hb1;clear hb1;have hg2_0:=hg2.cell_at (i:=0) rfl;have hg2_1:=hg2.cell_at (i:=1) rfl;have hg2_2:=hg2.cell_at (i:=2) rfl;have hg2_3:=hg2.cell_at (i:=3) rfl;have hg2_f:=hg2.frozen;have hg2_l:=hg2.lt;have hg2_m:=Nat.lt_succ_of_lt hg2_l;have hg2_n:=Nat.lt_succ_of_lt hg2_m)|(go_at_call 161;refine (hBits _).mono ?_;rintro e W2 ⟨rfl,hb1⟩;replace hg2:=hg2.below hb1 hg2.lt;replace hg3:=hg3.below hb1 hg3.lt;replace hg4:=hg4.below hb1 hg4.lt;replace hg5:=hg5.below hb1 hg5.lt;replace hb:=hb.trans' hb1;clear hb1 hg2_0 hg2_1 hg2_2 hg2_3 hg2_f hg2_l))
  go_loopw [44] (fun i wr=>∃ k m:Nat,k+m=N∧i=.int .i64 (k:Int)∧Blk wr w.heap.size 24 (numC a)∧Blk wr (w.heap.size+1) 24 (numC b)∧Blk wr (w.heap.size+1+1) 24 (numC (topN (a / b) m))∧Blk wr (w.heap.size+1+1+1) 24 (numC (a / 2 ^ m%b))∧Ext w wr) (fun i _=>N - (intOf i).toNat)
  case atStart=>exact⟨0,N,by omega,rfl,hg2,hg3,by rw[topN_high (Nat.lt_of_le_of_lt (Nat.div_le_self _ _) hlt)];exact hg4,by rw[Nat.div_eq_of_lt hlt,Nat.zero_mod];exact hg5,hb⟩
  case round =>
    clear hg2 hg3 hg4 hg5 hb
    obtain⟨k,m,hkm,rfl,hg2,hg3,hg4,hg5,hb⟩:=hrel
    rcases m with _|m
    · obtain rfl:k=N:=by omega
      have hsz:=hb.size
      rw[topN_zero] at hg4
      rw[Nat.pow_zero,Nat.div_one] at hg5
      have hg4_0:=hg4.cell_at (i:=0) rfl;have hg4_1:=hg4.cell_at (i:=1) rfl;have hg4_2:=hg4.cell_at (i:=2) rfl;have hg4_3:=hg4.cell_at (i:=3) rfl;have hg4_f:=hg4.frozen;have hg4_l:=hg4.lt;have hg4_m:=Nat.lt_succ_of_lt hg4_l;have hg4_n:=Nat.lt_succ_of_lt hg4_m
      have hg5_0:=hg5.cell_at (i:=0) rfl;have hg5_1:=hg5.cell_at (i:=1) rfl;have hg5_2:=hg5.cell_at (i:=2) rfl;have hg5_3:=hg5.cell_at (i:=3) rfl;have hg5_f:=hg5.frozen;have hg5_l:=hg5.lt;have hg5_m:=Nat.lt_succ_of_lt hg5_l;have hg5_n:=Nat.lt_succ_of_lt hg5_m
      clear hg2 hg3
      go_wp2
      go_region
      go_wp2
      refine bodyPost_ret (v:=.tuple #[numV (a / b),numV (a%b),.int .i64 0]) ?_ rfl ⟨rfl,?_⟩
      · simp[results,Tryz.results275,go_sem,hg4_0,hg4_1,hg4_2,hg4_3,hg5_0,hg5_1,hg5_2,hg5_3]
      · ((repeat' (with_reducible first|exact hb|refine Below.drew ?_|refine Below.drewN' ?_ _|refine Below.setCell ?_ ?_ _|refine Below.alloc ?_ ?_ _))<;>(first|omega|(simp;done)|(simp;omega)))
    · have hkN:(k:Int)<(N:Int):=by omega
      have hi:(N:Int) - 1 - (k:Int)=(m:Int):=by omega
      have hm:m<256:=by omega
      have hB:=fun w=>limbs_Bit a (m:Int) ha (by omega) (by omega) w
      rw[Int.toNat_natCast] at hB
      have hb1:=bitN_le a m
      have hX:=divides_next (a / 2 ^ (m+1)%b) (bitN a m) b (Nat.mod_lt _ h0) hbB hb1
      unfold remN quoN at hX
      rw[(left_bit (a:=a) m h0).1,(left_bit (a:=a) m h0).2] at hX
      have hq1:=bitN_le (a / b) m
      have hor:=topN_same (a / b) m hm
      have hset:=topC_set (a / b) m hm
      generalize bitN a m=B at *
      generalize bitN (a / b) m=Q at *
      generalize a / 2 ^ (m+1)%b=r0 at *
      generalize hr1:a / 2 ^ m%b=r1 at *
      generalize topN (a / b) (m+1)=T0 at *
      generalize hT1:topN (a / b) m=T1 at *
      have hval:=or_cell (wd (m / 64) T0) Q m (wd_lt _ _) hq1
      rw[hor] at hval
      have HO:=Lib.hid hval;have HS:=Lib.hid hset;have HR:=Lib.hid hr1;have HT:=Lib.hid hT1
      clear hor hset hval hr1 hT1
      have hg2_0:=hg2.cell_at (i:=0) rfl;have hg2_1:=hg2.cell_at (i:=1) rfl;have hg2_2:=hg2.cell_at (i:=2) rfl;have hg2_3:=hg2.cell_at (i:=3) rfl;have hg2_f:=hg2.frozen;have hg2_l:=hg2.lt;have hg2_m:=Nat.lt_succ_of_lt hg2_l;have hg2_n:=Nat.lt_succ_of_lt hg2_m
      have hg3_0:=hg3.cell_at (i:=0) rfl;have hg3_1:=hg3.cell_at (i:=1) rfl;have hg3_2:=hg3.cell_at (i:=2) rfl;have hg3_3:=hg3.cell_at (i:=3) rfl;have hg3_f:=hg3.frozen;have hg3_l:=hg3.lt;have hg3_m:=Nat.lt_succ_of_lt hg3_l;have hg3_n:=Nat.lt_succ_of_lt hg3_m
      have hg5_0:=hg5.cell_at (i:=0) rfl;have hg5_1:=hg5.cell_at (i:=1) rfl;have hg5_2:=hg5.cell_at (i:=2) rfl;have hg5_3:=hg5.cell_at (i:=3) rfl;have hg5_f:=hg5.frozen;have hg5_l:=hg5.lt;have hg5_m:=Nat.lt_succ_of_lt hg5_l;have hg5_n:=Nat.lt_succ_of_lt hg5_m
      have lt4:=hg4.lt
      go_wp2
      refine Kp.wp_region_kpf [8] 9 (by kernel_rfl) (by kernel_rfl) (fun L Fin hL hFin=>?_)
      have HL:=Lib.hid hL;clear hL
      have HF:=Lib.hid hFin;clear hFin
      simp only[List.take_succ_cons,List.take_zero,List.drop_succ_cons,List.drop_zero]
      apply Exists.intro
      repeat ((first|(apply Kp.kp_free;(first|rfl|(rw[HL.out];rfl));(intro w1;go_simp;rfl))|(apply Kp.kp_now;rfl;(first|rfl|(rw[HL.out];rfl));(intro w1 hb1;obtain⟨hcw,hfw⟩:=bcell hb1;clear hb1;go_simp;rfl)));simp only[Act.put,List.setIfInBounds_toArray,List.set_cons_succ,List.set_cons_zero])
      apply Kp.kp_val
      rfl
      (first|rfl|(rw[HL.out];rfl))
      (intro w1 hb1 _;obtain⟨hcw,hfw⟩:=bcell hb1;refine Kp.kyp_call (by go_simp;first|rfl|exact⟨rfl,rfl⟩) ?_;refine (hB w1).mono ?_;rintro e w2 ⟨rfl,hb2⟩;exact⟨_,rfl,rfl,hb2⟩)
      simp only[Act.put,List.setIfInBounds_toArray,List.set_cons_succ,List.set_cons_zero]
      repeat ((first|(apply Kp.kp_free;(first|rfl|(rw[HL.out];rfl));(intro w1;go_simp;rfl))|(apply Kp.kp_now;rfl;(first|rfl|(rw[HL.out];rfl));(intro w1 hb1;obtain⟨hcw,hfw⟩:=bcell hb1;clear hb1;go_simp;rfl)));simp only[Act.put,List.setIfInBounds_toArray,List.set_cons_succ,List.set_cons_zero])
      apply Kp.kp_val
      rfl
      (first|rfl|(rw[HL.out];rfl))
      (intro w1 hb1 _;obtain⟨hcw,hfw⟩:=bcell hb1;refine Kp.kyp_call (by go_simp;first|rfl|exact⟨rfl,rfl⟩) ?_;refine (hX w1).mono ?_;rintro e w2 ⟨rfl,hb2⟩;exact⟨_,rfl,rfl,hb2⟩)
      simp only[Act.put,List.setIfInBounds_toArray,List.set_cons_succ,List.set_cons_zero]
      repeat ((first|(apply Kp.kp_free;(first|rfl|(rw[HL.out];rfl));(intro w1;go_simp;rfl))|(apply Kp.kp_now;rfl;(first|rfl|(rw[HL.out];rfl));(intro w1 hb1;obtain⟨hcw,hfw⟩:=bcell hb1;clear hb1;go_simp;rfl)));simp only[Act.put,List.setIfInBounds_toArray,List.set_cons_succ,List.set_cons_zero])
      apply Kp.kp_nil
      refine HF.out _ _ (fun w1 hb1 _=>?_)
      clear HL HF
      simp only[List.drop_succ_cons,List.drop_zero]
      replace hg2:=hg2.below hb1 hg2_l
      replace hg3:=hg3.below hb1 hg3_l
      replace hg4:=hg4.below hb1 lt4
      replace hg5:=hg5.below hb1 hg5_l
      replace hb:=hb.trans' hb1
      clear hb1 hg2_0 hg2_1 hg2_2 hg2_3 hg2_f hg2_l hg3_0 hg3_1 hg3_2 hg3_3 hg3_f hg3_l hg5_0 hg5_1 hg5_2 hg5_3 hg5_f hg5_l lt4
      have hg5_0:=hg5.cell_at (i:=0) rfl;have hg5_1:=hg5.cell_at (i:=1) rfl;have hg5_2:=hg5.cell_at (i:=2) rfl;have hg5_3:=hg5.cell_at (i:=3) rfl;have hg5_f:=hg5.frozen;have hg5_l:=hg5.lt;have hg5_m:=Nat.lt_succ_of_lt hg5_l;have hg5_n:=Nat.lt_succ_of_lt hg5_m
      go_wp2
      refine NoPanic.normal ?_
      go_wp2
      generalize hw3:(((w1.setCell _ _).setCell _ _).setCell _ _).setCell _ _=w3
      have k2:Blk w3 w.heap.size 24 (numC a):=by subst hw3;((repeat' (with_reducible first|exact hg2|refine Blk.drew ?_|refine Blk.drewN ?_ _|refine Blk.far ?_ ?_ _|refine Blk.alloc ?_ _))<;>(first|omega|(simp;done)|(simp;omega)))
      have k3:Blk w3 (w.heap.size+1) 24 (numC b):=by subst hw3;((repeat' (with_reducible first|exact hg3|refine Blk.drew ?_|refine Blk.drewN ?_ _|refine Blk.far ?_ ?_ _|refine Blk.alloc ?_ _))<;>(first|omega|(simp;done)|(simp;omega)))
      have k4:Blk w3 (w.heap.size+1+1) 24 (numC T0):=by subst hw3;((repeat' (with_reducible first|exact hg4|refine Blk.drew ?_|refine Blk.drewN ?_ _|refine Blk.far ?_ ?_ _|refine Blk.alloc ?_ _))<;>(first|omega|(simp;done)|(simp;omega)))
      have k5:Blk w3 (w.heap.size+1+1+1) 24 (numC r1):=by subst hw3;exact (((hg5.set_ 0 _).set_ 1 _).set_ 2 _).set_ 3 _
      have hb3:Ext w w3:=by subst hw3;have hsz:=hb.size;((repeat' (with_reducible first|exact hb|refine Below.drew ?_|refine Below.drewN' ?_ _|refine Below.setCell ?_ ?_ _|refine Below.alloc ?_ ?_ _))<;>(first|omega|(simp;done)|(simp;omega)))
      clear hw3 hg2 hg3 hg4 hg5 hb hg5_0 hg5_1 hg5_2 hg5_3 hg5_f hg5_l
      have hq:m / 64<4:=by omega
      have c4:=k4.cell_at (numC_get T0 hq)
      have f4:=k4.frozen (m / 64)
      have l4:=k4.lt
      have hq1:(m:Int) / 64<4:=by omega
      have hq0:0≤(m:Int) / 64:=by omega
      have hq2:IntKind.i64.wrap ((m:Int) / 64)=(m:Int) / 64:=by rw[IntKind.wrap_i64];omega
      have hq3:((m:Int) / 64).toNat=m / 64:=by omega
      refine Kp.wp_region_kpl 8 (by kernel_rfl) (by kernel_rfl) (fun L Fin hL hFin=>?_)
      have HL:=Lib.hid hL;clear hL
      have HF:=Lib.hid hFin;clear hFin
      simp only[List.take_succ_cons,List.take_zero,List.drop_succ_cons,List.drop_zero]
      apply Exists.intro
      repeat ((first|(apply Kp.kp_free;(first|rfl|(rw[HL.out];rfl));(intro w1;go_simp;rfl))|(apply Kp.kp_now;rfl;(first|rfl|(rw[HL.out];rfl));(intro w1 hb1;obtain⟨hcw,hfw⟩:=bcell hb1;clear hb1;go_simp;rfl)));simp only[Act.put,List.setIfInBounds_toArray,List.set_cons_succ,List.set_cons_zero])
      apply Kp.kp_nil
      refine HF.out _ _ (fun w5 hb5 _=>?_)
      clear HL HF
      simp only[List.drop_succ_cons,List.drop_zero]
      have c6:=(k4.below hb5 l4).cell_at (numC_get T0 hq)
      have f6:=(k4.below hb5 l4).frozen (m / 64)
      go_wp2
      go_roundw
      case rel =>
        replace k2:=k2.below hb5 k2.lt
        replace k3:=k3.below hb5 k3.lt
        replace k4:=k4.below hb5 k4.lt
        replace k5:=k5.below hb5 k5.lt
        replace hb3:=hb3.trans' hb5
        rw[HO.out]
        refine⟨k+1,m,by omega,by go_num,(by ((repeat' (with_reducible first|exact k2|refine Blk.drew ?_|refine Blk.drewN ?_ _|refine Blk.far ?_ ?_ _|refine Blk.alloc ?_ _))<;>(first|omega|(simp;done)|(simp;omega)))),(by ((repeat' (with_reducible first|exact k3|refine Blk.drew ?_|refine Blk.drewN ?_ _|refine Blk.far ?_ ?_ _|refine Blk.alloc ?_ _))<;>(first|omega|(simp;done)|(simp;omega)))),?_,?_,(by ((repeat' (with_reducible first|exact hb3|refine Below.drew ?_|refine Below.drewN' ?_ _|refine Below.setCell ?_ ?_ _|refine Below.alloc ?_ ?_ _))<;>(first|omega|(simp;done)|(simp;omega))))⟩
        · rw[HT.out,← HS.out]
          exact k4.set_ _ _
        · rw[HR.out]
          ((repeat' (with_reducible first|exact k5|refine Blk.drew ?_|refine Blk.drewN ?_ _|refine Blk.far ?_ ?_ _|refine Blk.alloc ?_ _))<;>(first|omega|(simp;done)|(simp;omega)))
      case measure=>first|(simp[intOf];done)|(simp[intOf];omega)
theorem divides_Div (a b:Nat) (ha:a<B256) (hb:b<B256) (h0:0<b) (w:World) :
    Calls Tryz.prog 275 #[numV a,numV b] w fun e w'=>e=.returned (.tuple #[numV (a / b),numV (a%b),.int .i64 0])∧Below w.heap.size w w':=by
  by_cases hs:b<18446744073709551616
  · exact divides_Div_short a b ha h0 hs w
  · exact divides_Div_long a b ha hb h0 hs w
end Go.Proofs.YtiiacjladnljhaaGreatDoor
namespace Go.Proofs.YtiiacjladnljhaaGreatDoor
open Go.RowKit
attribute [local go_sem] run_eqin_num run_eqin_zero
theorem B256_zero:0<B256:=by unfold B256;omega
set_option maxRecDepth 100000 in
set_option maxHeartbeats 1000000 in
theorem divides_Common (a b:Nat) (ha:a<B256) (hb:b<B256) (w:World) :
    Calls Tryz.prog 274 #[numV a,numV b] w fun e w'=>e=.returned (numV (Nat.gcd a b))∧Below w.heap.size w w':=by
  have hz:=B256_zero
  go_enter Tryz.func274,Tryz.ntmps274
  go_wp2
  generalize hW:((w.alloc _).alloc _).alloc _=W
  have g2:Blk W w.heap.size 24 (numC a):=by subst hW;exact ((Blk.new _ _ _).alloc _).alloc _
  have g3:Blk W (w.heap.size+1) 24 (numC b):=by subst hW;exact (Blk.new' (by simp)).alloc _
  have g4:Blk W (w.heap.size+1+1) 24 zeroC:=by subst hW;exact Blk.new' (by simp)
  have hbw:Ext w W:=by subst hW;exact (((Ext.rfl' w).alloc' _).alloc' _).alloc' _
  clear hW
  go_step3
  go_wp2
  go_step3
  go_wp2
  go_loopg [] b (fun g wr=>∃ x y:Nat,y=g∧x<B256∧y<B256∧Nat.gcd x y=Nat.gcd a b∧Blk wr w.heap.size 24 (numC x)∧Blk wr (w.heap.size+1) 24 (numC y)∧Blk wr (w.heap.size+1+1) 24 zeroC∧Ext w wr)
  case atStart=>exact⟨a,b,rfl,ha,hb,rfl,g2,g3,g4,hbw⟩
  case round =>
    clear g2 g3 g4 hbw
    obtain⟨x,y,rfl,hx,hy,hg,g2,g3,g4,hbw⟩:=hrel
    have g2_0:=g2.cell_at (i:=0) rfl;have g2_1:=g2.cell_at (i:=1) rfl;have g2_2:=g2.cell_at (i:=2) rfl;have g2_3:=g2.cell_at (i:=3) rfl;have g2_f:=g2.frozen;have g2_l:=g2.lt;have g2_m:=Nat.lt_succ_of_lt g2_l;have g2_n:=Nat.lt_succ_of_lt g2_m
    have g3_0:=g3.cell_at (i:=0) rfl;have g3_1:=g3.cell_at (i:=1) rfl;have g3_2:=g3.cell_at (i:=2) rfl;have g3_3:=g3.cell_at (i:=3) rfl;have g3_f:=g3.frozen;have g3_l:=g3.lt;have g3_m:=Nat.lt_succ_of_lt g3_l;have g3_n:=Nat.lt_succ_of_lt g3_m
    by_cases h0:y=0
    · subst h0
      rw[Nat.gcd_zero_right] at hg
      subst hg
      have he:=eqN_yes (a:=0) (b:=0) rfl
      have g4_0:=g4.cell_at (i:=0) rfl;have g4_1:=g4.cell_at (i:=1) rfl;have g4_2:=g4.cell_at (i:=2) rfl;have g4_3:=g4.cell_at (i:=3) rfl;have g4_f:=g4.frozen;have g4_l:=g4.lt;have g4_m:=Nat.lt_succ_of_lt g4_l;have g4_n:=Nat.lt_succ_of_lt g4_m
      go_wp2
      rw[Exit.noGoto_ret]
      refine bodyPost_ret (v:=numV (a.gcd b)) ?_ rfl ⟨rfl,?_⟩
      · simp[results,Tryz.results274,go_sem,g4_0,g4_1,g4_2,g4_3]
      · have hsz:=hbw.size
        ((repeat' (with_reducible first|exact hbw|refine Below.drew ?_|refine Below.drewN' ?_ _|refine Below.setCell ?_ ?_ _|refine Below.alloc ?_ ?_ _))<;>(first|omega|(simp;done)|(simp;omega)))
    · have he:=eqN_no h0
      have hD:=fun w=>divides_Div x y hx hy (by omega) w
      have hlt:x%y<y:=Nat.mod_lt _ (by omega)
      have hgg:Nat.gcd y (x%y)=Nat.gcd a b:=by rw[← hg,Nat.gcd_comm x y,Nat.gcd_rec y x,Nat.gcd_comm]
      clear hg
      generalize x%y=r at *
      generalize x / y=q at *
      go_wp2_with (go_at_call 275;refine (hD _).mono ?_;rintro e w1 ⟨rfl,hb1⟩;replace g2:=g2.below hb1 g2_l;replace g3:=g3.below hb1 g3_l;replace g4:=g4.below hb1 g4.lt;replace hbw:=hbw.trans' hb1;clear hb1 g2_0 g2_1 g2_2 g2_3 g2_f g2_l g3_0 g3_1 g3_2 g3_3 g3_f g3_l;have g2_0:=g2.cell_at (i:=0) rfl;have g2_1:=g2.cell_at (i:=1) rfl;have g2_2:=g2.cell_at (i:=2) rfl;have g2_3:=g2.cell_at (i:=3) rfl;have g2_f:=g2.frozen;have g2_l:=g2.lt;have g2_m:=Nat.lt_succ_of_lt g2_l;have g2_n:=Nat.lt_succ_of_lt g2_m;have g3_0:=g3.cell_at (i:=0) rfl;have g3_1:=g3.cell_at (i:=1) rfl;have g3_2:=g3.cell_at (i:=2) rfl;have g3_3:=g3.cell_at (i:=3) rfl;have g3_f:=g3.frozen;have g3_l:=g3.lt;have g3_m:=Nat.lt_succ_of_lt g3_l;have g3_n:=Nat.lt_succ_of_lt g3_m)
      go_region
      have lt4:=g4.lt
      go_wp2
      go_roundg r
      case measure=>exact hlt
      case rel =>
        refine⟨y,r,rfl,hy,by omega,hgg,(by ((repeat' (with_reducible first|exact g2|refine Blk.drew ?_|refine Blk.drewN ?_ _|apply Blk.put4|refine Blk.far ?_ ?_ _|refine Blk.alloc ?_ _))<;>(first|omega|(simp;done)|(simp;omega)))),(by ((repeat' (with_reducible first|exact g3|refine Blk.drew ?_|refine Blk.drewN ?_ _|apply Blk.put4|refine Blk.far ?_ ?_ _|refine Blk.alloc ?_ _))<;>(first|omega|(simp;done)|(simp;omega)))),(by ((repeat' (with_reducible first|exact g4|refine Blk.drew ?_|refine Blk.drewN ?_ _|refine Blk.far ?_ ?_ _|refine Blk.alloc ?_ _))<;>(first|omega|(simp;done)|(simp;omega)))),?_⟩
        have hsz:=hbw.size
        ((repeat' (with_reducible first|exact hbw|refine Below.drew ?_|refine Below.drewN' ?_ _|refine Below.setCell ?_ ?_ _|refine Below.alloc ?_ ?_ _))<;>(first|omega|(simp;done)|(simp;omega)))
end Go.Proofs.YtiiacjladnljhaaGreatDoor
namespace Go.Proofs.YtiiacjladnljhaaGreatDoor
open Go.RowKit
attribute [local go_sem] run_eqin_num run_eqin_zero
theorem wide_step {a r0 m j:Nat} (hj:j<256) :
    remN ((r0*2 ^ j+a / 2 ^ (256 - j))%m) (bitN a (255 - j)) m=(r0*2 ^ (j+1)+a / 2 ^ (256 - (j+1)))%m:=by
  have hs:=step_bit a (255 - j)
  rw[show 255 - j+1=256 - j by omega] at hs
  unfold remN
  rw[show 256 - (j+1)=255 - j by omega,hs,Nat.pow_succ]
  generalize a / 2 ^ (256 - j)=x
  generalize bitN a (255 - j)=d
  have e:r0*(2 ^ j*2)+(x+x+d)=(r0*2 ^ j+x)+(r0*2 ^ j+x)+d:=by rw[← Nat.mul_assoc];omega
  rw[e]
  generalize r0*2 ^ j+x=y
  simp[Nat.add_mod]
theorem wide_first (r0 a m:Nat) (ha:a<B256) (hr:r0<m):(r0*2 ^ 0+a / 2 ^ (256 - 0))%m=r0:=by
  rw[Nat.div_eq_of_lt (by simpa [B256] using ha)]
  simp[Nat.mod_eq_of_lt hr]
theorem wide_last (r0 a m:Nat):(r0*2 ^ 256+a / 2 ^ (256 - 256))%m=(r0*B256+a)%m:=by simp[B256]
def pickN (hi lo i:Nat):Nat:=if i=0 then hi else lo
theorem pickN_lt {hi lo:Nat} (i:Nat) (h1:hi<B256) (h2:lo<B256):pickN hi lo i<B256:=by unfold pickN;split<;>assumption
def stgN (hi lo m:Nat):Nat→Nat
  | 0=>0
  | i+1=>(stgN hi lo m i*B256+pickN hi lo i)%m
theorem stgN_lt {hi lo m:Nat} (i:Nat) (h0:0<m):stgN hi lo m i<m:=by
  cases i with
  | zero=>exact h0
  | succ i=>exact Nat.mod_lt _ h0
theorem numC_zero:numC 0=zeroC:=rfl
abbrev twoV (hi lo:Nat):Value:=.agg #[.int .u64 ((wd 0 hi:Nat):Int),.int .u64 ((wd 1 hi:Nat):Int),.int .u64 ((wd 2 hi:Nat):Int),.int .u64 ((wd 3 hi:Nat):Int),.int .u64 ((wd 0 lo:Nat):Int),.int .u64 ((wd 1 lo:Nat):Int),.int .u64 ((wd 2 lo:Nat):Int),.int .u64 ((wd 3 lo:Nat):Int)]
theorem run_index_two0 (hi lo:Nat) (w:World):(Instr.index 302 (twoV hi lo) (.int .i64 0)).run Tryz.prog w=.ok (numV hi) w:=by kernel_rfl
theorem run_index_two1 (hi lo:Nat) (w:World):(Instr.index 302 (twoV hi lo) (.int .i64 1)).run Tryz.prog w=.ok (numV lo) w:=by kernel_rfl
theorem run_index_two (hi lo:Nat) {i:Nat} (h:i<2) (w:World):(Instr.index 302 (twoV hi lo) (.int .i64 (i:Int))).run Tryz.prog w=.ok (numV (pickN hi lo i)) w:=by
  have:i=0∨i=1:=by omega
  rcases this with rfl|rfl
  · exact run_index_two0 hi lo w
  · exact run_index_two1 hi lo w
set_option maxRecDepth 100000 in
set_option maxHeartbeats 1000000 in
theorem divides_Wide_long (lo hi m:Nat) (hlo:lo<B256) (hhi:hi<B256) (hmB:m<B256) (h0:0<m) (hs:¬ m<18446744073709551616) (w:World) :
    Calls Tryz.prog 222 #[numV lo,numV hi,numV m] w fun e w'=>e=.returned (.tuple #[numV ((hi*B256+lo)%m),.int .i64 0])∧Below w.heap.size w w':=by
  have he:=eqN_no (a:=m) (b:=0) (by omega)
  have hsh:shortN m=false:=by simp[shortN,hs]
  go_enter Tryz.func222,Tryz.ntmps222
  go_wp2_with (go_at_call 252;refine (divides_short m hmB _).mono ?_;rw[hsh];rintro e W ⟨rfl,hb1⟩;have g3:Blk W w.heap.size 24 (numC lo):=((((Blk.new _ _ _).alloc _).alloc _).alloc _).below hb1 (by simp;omega);have g4:Blk W (w.heap.size+1) 24 (numC hi):=(((Blk.new' (by simp)).alloc _).alloc _).below hb1 (by simp);have g5:Blk W (w.heap.size+1+1) 24 (numC m):=((Blk.new' (by simp)).alloc _).below hb1 (by simp);have g6:Blk W (w.heap.size+1+1+1) 24 zeroC:=(Blk.new' (by simp)).below hb1 (by simp);have hb:Ext w W:=(((((Ext.rfl' w).alloc' _).alloc' _).alloc' _).alloc' _).trans' hb1;clear hb1;have g3_0:=g3.cell_at (i:=0) rfl;have g3_1:=g3.cell_at (i:=1) rfl;have g3_2:=g3.cell_at (i:=2) rfl;have g3_3:=g3.cell_at (i:=3) rfl;have g3_f:=g3.frozen;have g3_l:=g3.lt;have g3_m:=Nat.lt_succ_of_lt g3_l;have g3_n:=Nat.lt_succ_of_lt g3_m;have g4_0:=g4.cell_at (i:=0) rfl;have g4_1:=g4.cell_at (i:=1) rfl;have g4_2:=g4.cell_at (i:=2) rfl;have g4_3:=g4.cell_at (i:=3) rfl;have g4_f:=g4.frozen;have g4_l:=g4.lt;have g4_m:=Nat.lt_succ_of_lt g4_l;have g4_n:=Nat.lt_succ_of_lt g4_m)
  clear g3 g4 g3_0 g3_1 g3_2 g3_3 g3_f g3_l g4_0 g4_1 g4_2 g4_3 g4_f g4_l
  go_loopw [44] (fun i wr=>∃ n:Nat,n≤2∧i=.int .i64 (n:Int)∧Blk wr (w.heap.size+1+1) 24 (numC m)∧Blk wr (w.heap.size+1+1+1) 24 (numC (stgN hi lo m n))∧Ext w wr) (fun i _=>2 - (intOf i).toNat)
  case atStart=>exact⟨0,by omega,rfl,g5,by rw[show stgN hi lo m 0=0 from rfl,numC_zero];exact g6,hb⟩
  case round =>
    clear g5 g6 hb
    obtain⟨n,hn,rfl,g5,g6,hb⟩:=hrel
    by_cases hlt:n<2
    · have hix:=run_index_two hi lo hlt
      have hdec:decide ((n:Int)<2)=true:=by simp;omega
      have hpk:=pickN_lt n hhi hlo
      have hst:=stgN_lt n (hi:=hi) (lo:=lo) h0
      have hnx:(stgN hi lo m n*B256+pickN hi lo n)%m=stgN hi lo m (n+1):=rfl
      generalize pickN hi lo n=a at *
      generalize stgN hi lo m n=r0 at *
      obtain⟨wo,rfl⟩ : ∃ wo:World,wo=wr:=⟨_,rfl⟩
      have g6_l:=g6.lt
      go_wp2
      go_loopw [47] (fun i wr=>∃ j:Nat,j≤256∧i=.int .i64 (j:Int)∧Blk wr (w.heap.size+1+1) 24 (numC m)∧Blk wr (w.heap.size+1+1+1) 24 (numC ((r0*2 ^ j+a / 2 ^ (256 - j))%m))∧Blk wr wo.heap.size 24 (numC a)∧Ext w wr) (fun i _=>256 - (intOf i).toNat)
      case atStart=>exact⟨0,by omega,rfl,(by ((repeat' (with_reducible first|exact g5|refine Blk.drew ?_|refine Blk.drewN ?_ _|refine Blk.far ?_ ?_ _|refine Blk.alloc ?_ _))<;>(first|omega|(simp;done)|(simp;omega)))),by rw[wide_first r0 a m hpk hst];((repeat' (with_reducible first|exact g6|refine Blk.drew ?_|refine Blk.drewN ?_ _|refine Blk.far ?_ ?_ _|refine Blk.alloc ?_ _))<;>(first|omega|(simp;done)|(simp;omega))),Blk.new' rfl,hb.alloc' _⟩
      case round =>
        clear hix g5 g6
        obtain⟨j,hj,rfl,g5,g6,g12,hb2⟩:=hrel
        by_cases hjt:j<256
        · have hjd:decide ((j:Int)<256)=true:=by simp;omega
          have hi:(255:Int) - (j:Int)=((255 - j:Nat):Int):=by omega
          have hB:=fun w=>limbs_Bit a ((255:Int) - (j:Int)) hpk (by omega) (by omega) w
          rw[show ((255:Int) - (j:Int)).toNat=255 - j by omega] at hB
          have hb1:=bitN_le a (255 - j)
          have hX:=divides_next ((r0*2 ^ j+a / 2 ^ (256 - j))%m) (bitN a (255 - j)) m (Nat.mod_lt _ h0) hmB hb1
          rw[wide_step hjt] at hX
          have hwr:IntKind.i64.wrap ((255:Int) - (j:Int))=(255:Int) - (j:Int):=by rw[IntKind.wrap_i64];omega
          generalize quoN _ _ _=Q at *
          generalize bitN a (255 - j)=B at *
          generalize (r0*2 ^ j+a / 2 ^ (256 - j))%m=r1 at *
          generalize hR:(r0*2 ^ (j+1)+a / 2 ^ (256 - (j+1)))%m=r2 at *
          have HR:=Lib.hid hR;clear hR hi
          have g5_0:=g5.cell_at (i:=0) rfl;have g5_1:=g5.cell_at (i:=1) rfl;have g5_2:=g5.cell_at (i:=2) rfl;have g5_3:=g5.cell_at (i:=3) rfl;have g5_f:=g5.frozen;have g5_l:=g5.lt;have g5_m:=Nat.lt_succ_of_lt g5_l;have g5_n:=Nat.lt_succ_of_lt g5_m
          have g6_0:=g6.cell_at (i:=0) rfl;have g6_1:=g6.cell_at (i:=1) rfl;have g6_2:=g6.cell_at (i:=2) rfl;have g6_3:=g6.cell_at (i:=3) rfl;have g6_f:=g6.frozen;have g6_l:=g6.lt;have g6_m:=Nat.lt_succ_of_lt g6_l;have g6_n:=Nat.lt_succ_of_lt g6_m
          have g12_0:=g12.cell_at (i:=0) rfl;have g12_1:=g12.cell_at (i:=1) rfl;have g12_2:=g12.cell_at (i:=2) rfl;have g12_3:=g12.cell_at (i:=3) rfl;have g12_f:=g12.frozen;have g12_l:=g12.lt;have g12_m:=Nat.lt_succ_of_lt g12_l;have g12_n:=Nat.lt_succ_of_lt g12_m
          go_wp2
          refine Kp.wp_region_kpf [9] 10 (by kernel_rfl) (by kernel_rfl) (fun L Fin hL hFin=>?_)
          have HL:=Lib.hid hL;clear hL
          have HF:=Lib.hid hFin;clear hFin
          simp only[List.take_succ_cons,List.take_zero,List.drop_succ_cons,List.drop_zero]
          apply Exists.intro
          repeat ((first|(apply Kp.kp_free;(first|rfl|(rw[HL.out];rfl));(intro w1;go_simp;rfl))|(apply Kp.kp_now;rfl;(first|rfl|(rw[HL.out];rfl));(intro w1 hb1;obtain⟨hcw,hfw⟩:=bcell hb1;clear hb1;go_simp;rfl)));simp only[Act.put,List.setIfInBounds_toArray,List.set_cons_succ,List.set_cons_zero])
          apply Kp.kp_val
          rfl
          (first|rfl|(rw[HL.out];rfl))
          (intro w1 hb1 _;obtain⟨hcw,hfw⟩:=bcell hb1;refine Kp.kyp_call (by go_simp;first|rfl|exact⟨rfl,rfl⟩) ?_;refine (hB w1).mono ?_;rintro e w2 ⟨rfl,hb2⟩;exact⟨_,rfl,rfl,hb2⟩)
          simp only[Act.put,List.setIfInBounds_toArray,List.set_cons_succ,List.set_cons_zero]
          repeat ((first|(apply Kp.kp_free;(first|rfl|(rw[HL.out];rfl));(intro w1;go_simp;rfl))|(apply Kp.kp_now;rfl;(first|rfl|(rw[HL.out];rfl));(intro w1 hb1;obtain⟨hcw,hfw⟩:=bcell hb1;clear hb1;go_simp;rfl)));simp only[Act.put,List.setIfInBounds_toArray,List.set_cons_succ,List.set_cons_zero])
          apply Kp.kp_val
          rfl
          (first|rfl|(rw[HL.out];rfl))
          (intro w1 hb1 _;obtain⟨hcw,hfw⟩:=bcell hb1;refine Kp.kyp_call (by go_simp;first|rfl|exact⟨rfl,rfl⟩) ?_;refine (hX w1).mono ?_;rintro e w2 ⟨rfl,hb2⟩;exact⟨_,rfl,rfl,hb2⟩)
          simp only[Act.put,List.setIfInBounds_toArray,List.set_cons_succ,List.set_cons_zero]
          repeat ((first|(apply Kp.kp_free;(first|rfl|(rw[HL.out];rfl));(intro w1;go_simp;rfl))|(apply Kp.kp_now;rfl;(first|rfl|(rw[HL.out];rfl));(intro w1 hb1;obtain⟨hcw,hfw⟩:=bcell hb1;clear hb1;go_simp;rfl)));simp only[Act.put,List.setIfInBounds_toArray,List.set_cons_succ,List.set_cons_zero])
          apply Kp.kp_nil
          refine HF.out _ _ (fun w1 hb1 _=>?_)
          clear HL HF
          simp only[List.drop_succ_cons,List.drop_zero]
          replace g5:=g5.below hb1 g5_l
          replace g6:=g6.below hb1 g6_l
          replace g12:=g12.below hb1 g12_l
          replace hb2:=hb2.trans' hb1
          clear hb1 g5_0 g5_1 g5_2 g5_3 g5_f g5_l g6_0 g6_1 g6_2 g6_3 g6_f g6_l g12_0 g12_1 g12_2 g12_3 g12_f g12_l
          have g6_0:=g6.cell_at (i:=0) rfl;have g6_1:=g6.cell_at (i:=1) rfl;have g6_2:=g6.cell_at (i:=2) rfl;have g6_3:=g6.cell_at (i:=3) rfl;have g6_f:=g6.frozen;have g6_l:=g6.lt;have g6_m:=Nat.lt_succ_of_lt g6_l;have g6_n:=Nat.lt_succ_of_lt g6_m
          go_wp2
          refine NoPanic.normal ?_
          go_wp2
          go_roundw
          case rel =>
            have hsz:=hb2.size
            have hsw:=hb.size
            have hne:w.heap.size+1+1+1<wo.heap.size:=by omega
            refine⟨j+1,by omega,by go_num,(by ((repeat' (with_reducible first|exact g5|refine Blk.drew ?_|refine Blk.drewN ?_ _|refine Blk.far ?_ ?_ _|refine Blk.alloc ?_ _))<;>(first|omega|(simp;done)|(simp;omega)))),?_,(by ((repeat' (with_reducible first|exact g12|refine Blk.drew ?_|refine Blk.drewN ?_ _|refine Blk.far ?_ ?_ _|refine Blk.alloc ?_ _))<;>(first|omega|(simp;done)|(simp;omega)))),(by ((repeat' (with_reducible first|exact hb2|refine Below.drew ?_|refine Below.drewN' ?_ _|refine Below.setCell ?_ ?_ _|refine Below.alloc ?_ ?_ _))<;>(first|omega|(simp;done)|(simp;omega))))⟩
            rw[HR.out]
            ((repeat' (with_reducible first|exact g6|refine Blk.drew ?_|refine Blk.drewN ?_ _|apply Blk.put4|refine Blk.far ?_ ?_ _|refine Blk.alloc ?_ _))<;>(first|omega|(simp;done)|(simp;omega)))
          case measure=>first|(simp[intOf];done)|(simp[intOf];omega)
        · obtain rfl:j=256:=by omega
          have hjd:decide (((256:Nat):Int)<256)=false:=by simp
          go_wp2
          go_roundw
          case rel =>
            refine⟨n+1,by omega,by go_num,g5,?_,hb2⟩
            rw[wide_last,hnx] at g6
            exact g6
          case measure=>first|(simp[intOf];done)|(simp[intOf];omega)
    · obtain rfl:n=2:=by omega
      have hst:stgN hi lo m 2=(hi*B256+lo)%m:=by
        simp only[stgN,pickN,if_true,Nat.zero_mul,Nat.zero_add,Nat.one_ne_zero,if_false]
        rw[Nat.add_mod,Nat.mul_mod,Nat.mod_mod,← Nat.mul_mod,← Nat.add_mod]
      rw[hst] at g6
      have hdec:decide (((2:Nat):Int)<2)=false:=by simp
      have g6_0:=g6.cell_at (i:=0) rfl;have g6_1:=g6.cell_at (i:=1) rfl;have g6_2:=g6.cell_at (i:=2) rfl;have g6_3:=g6.cell_at (i:=3) rfl;have g6_f:=g6.frozen;have g6_l:=g6.lt;have g6_m:=Nat.lt_succ_of_lt g6_l;have g6_n:=Nat.lt_succ_of_lt g6_m
      have hsz:=hb.size
      go_wp2
      refine bodyPost_ret (v:=.tuple #[numV ((hi*B256+lo)%m),.int .i64 0]) ?_ rfl ⟨rfl,?_⟩
      · simp[results,Tryz.results222,go_sem,g6_0,g6_1,g6_2,g6_3]
      · ((repeat' (with_reducible first|exact hb|refine Below.drew ?_|refine Below.drewN' ?_ _|refine Below.setCell ?_ ?_ _|refine Below.alloc ?_ ?_ _))<;>(first|omega|(simp;done)|(simp;omega)))
end Go.Proofs.YtiiacjladnljhaaGreatDoor
