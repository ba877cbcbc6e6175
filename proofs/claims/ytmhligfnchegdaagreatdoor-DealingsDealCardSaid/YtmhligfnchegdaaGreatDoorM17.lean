/- Part 17 of the proof: LimM, ModA, CoA, ShC, ShD, SyA -/
import Derived.Test.YtmhligfnchegdaaGreatDoorM14
import Derived.Test.YtmhligfnchegdaaGreatDoorM16
import Derived.Test.YtmhligfnchegdaaGreatDoorM08
import Derived.Test.YtmhligfnchegdaaGreatDoorM12
import Derived.Test.YtmhligfnchegdaaGreatDoorM13
import Derived.Test.YtmhligfnchegdaaGreatDoorM11
set_option linter.unusedSimpArgs false
set_option linter.unusedVariables false
namespace Go.Proofs.YtmhligfnchegdaaGreatDoor
open Go.RowKit
def u64s (l:List Nat):List Value:=l.map fun n=>.int .u64 ((n:Nat):Int)
theorem u64s_get {l:List Nat} {j:Nat} (h:j<l.length):(u64s l)[j]?=some (.int .u64 ((l.getD j 0:Nat):Int)):=by
  unfold u64s
  rw[List.getElem?_map,List.getD_eq_getElem?_getD,List.getElem?_eq_getElem h]
  rfl
theorem u64s_set (l:List Nat) (j v:Nat):(u64s l).set j (.int .u64 ((v:Nat):Int))=u64s (l.set j v):=by
  unfold u64s
  rw[← List.map_set]
theorem run_index_num0 (a:Nat) (w:World):(Instr.index 24 (numV a) (.int .i64 0)).run Tryz.prog w=.ok (.int .u64 ((wd 0 a:Nat):Int)) w:=by kernel_rfl
theorem run_index_num1 (a:Nat) (w:World):(Instr.index 24 (numV a) (.int .i64 1)).run Tryz.prog w=.ok (.int .u64 ((wd 1 a:Nat):Int)) w:=by kernel_rfl
theorem run_index_num2 (a:Nat) (w:World):(Instr.index 24 (numV a) (.int .i64 2)).run Tryz.prog w=.ok (.int .u64 ((wd 2 a:Nat):Int)) w:=by kernel_rfl
theorem run_index_num3 (a:Nat) (w:World):(Instr.index 24 (numV a) (.int .i64 3)).run Tryz.prog w=.ok (.int .u64 ((wd 3 a:Nat):Int)) w:=by kernel_rfl
theorem run_index_num (a:Nat) {i:Nat} (h:i<4) (w:World):(Instr.index 24 (numV a) (.int .i64 (i:Int))).run Tryz.prog w=.ok (.int .u64 ((wd i a:Nat):Int)) w:=by
  have:i=0∨i=1∨i=2∨i=3:=by omega
  rcases this with rfl|rfl|rfl|rfl
  · exact run_index_num0 a w
  · exact run_index_num1 a w
  · exact run_index_num2 a w
  · exact run_index_num3 a w
theorem run_arrayAt (g o c:Nat) (w:World):(Instr.arrayAt 24 (.slice (some ⟨g,o,none⟩) 4 c)).run Tryz.prog w=.ok (.pointer (some ⟨g,o,none⟩)) w:=by
  simp[Instr.arrayAt,go_sem,Tryz.underlying24]
set_option maxRecDepth 100000 in
theorem limbs_Mul (a b:Nat) (ha:a<B256) (hb:b<B256) (w:World) :
    Calls Tryz.prog 235 #[numV a,numV b] w fun e w'=>e=.returned (.tuple #[numV (a*b%B256),numV (a*b / B256)])∧Below w.heap.size w w':=by
  go_enter Tryz.func235,Tryz.ntmps235
  go_wp2
  generalize hW:((((w.alloc _).alloc _).alloc _).alloc _).alloc _=W
  have g6:Blk W (w.heap.size+1+1+1+1) 312 (u64s (List.replicate 8 0)):=by subst hW;exact Blk.new' (by simp)
  have g3:Blk W (w.heap.size+1) 24 (numC b):=by subst hW;exact (((Blk.new' (by simp)).alloc _).alloc _).alloc _
  have g4:∃ cs,Blk W (w.heap.size+1+1) 24 cs∧cs.length=4:=by subst hW;exact⟨_,((Blk.new' (by simp)).alloc _).alloc _,rfl⟩
  have g5:∃ cs,Blk W (w.heap.size+1+1+1) 24 cs∧cs.length=4:=by subst hW;exact⟨_,(Blk.new' (by simp)).alloc _,rfl⟩
  have hbw:Below w.heap.size w W:=by subst hW;exact (((((Ext.rfl' w).alloc' _).alloc' _).alloc' _).alloc' _).alloc' _
  clear hW
  go_loopw [13] (fun i wr=>∃ (n:Nat) (l:List Nat),n≤4∧i=.int .i64 n∧MulInv a b n 0 0 l∧Blk wr (w.heap.size+1+1+1+1) 312 (u64s l)∧Blk wr (w.heap.size+1) 24 (numC b) ∧
      (∃ cs,Blk wr (w.heap.size+1+1) 24 cs∧cs.length=4)∧(∃ cs,Blk wr (w.heap.size+1+1+1) 24 cs∧cs.length=4)∧Below w.heap.size w wr) (fun i _=>4 - (intOf i).toNat)
  case atStart=>exact⟨0,_,by omega,rfl,MulInv.start a b,g6,g3,g4,g5,hbw⟩
  case round =>
    clear g6 g3 g4 g5 hbw
    obtain⟨n,l,hn,rfl,hI,g6,g3,g4,g5,hbw⟩:=hrel
    have HI:=Lib.hid hI;clear hI
    have G4:=Lib.hid g4;have G5:=Lib.hid g5;clear g4 g5
    by_cases hlt:n<4
    · have hix:=run_index_num a hlt
      have hdec:decide ((n:Int)<4)=true:=by simp;omega
      have d0:=g3.cell_at (i:=0) rfl
      have d1:=g3.cell_at (i:=1) rfl
      have d2:=g3.cell_at (i:=2) rfl
      have d3:=g3.cell_at (i:=3) rfl
      obtain⟨wo,rfl⟩ : ∃ wo:World,wo=wr:=⟨_,rfl⟩
      go_wp2
      go_loopw [9,18] (fun m i wr=>∃ (k mm:Nat) (l2:List Nat),k≤4∧i=.int .i64 k∧m=.int .u64 (mm:Nat)∧MulInv a b n k mm l2∧Blk wr (w.heap.size+1+1+1+1) 312 (u64s l2)∧Blk wr (w.heap.size+1) 24 (numC b) ∧
        (∃ cs,Blk wr (w.heap.size+1+1) 24 cs∧cs.length=4)∧(∃ cs,Blk wr (w.heap.size+1+1+1) 24 cs∧cs.length=4)∧Below w.heap.size w wr) (fun _ i _=>4 - (intOf i).toNat)
      case atStart=>exact⟨0,0,l,by omega,rfl,rfl,HI.out,g6,g3,G4.out,G5.out,hbw⟩
      case round =>
        clear d0 d1 d2 d3 g6 g3 G4 G5 hbw HI hix hdec
        obtain⟨k,mm,l2,hk,rfl,rfl,hI,g6,g3,g4,g5,hbw⟩:=hrel
        have hmm:mm≤18446744073709551615:=by have:=hI.2.2.1;omega
        have hlen:=hI.1
        by_cases hkt:k<4
        · have hix:=run_index_num b hkt
          have hdec:decide ((k:Int)<4)=true:=by simp;omega
          have hstep:=hI.step hlt hkt
          have hc:=g6.cell_at (u64s_get (l:=l2) (j:=n+k) (by omega))
          have hf:=g6.frozen (n+k)
          have hlx:l2.getD (n+k) 0<18446744073709551616:=by
            rw[List.getD_eq_getElem?_getD,List.getElem?_eq_getElem (by omega),Option.getD_some]
            exact hI.2.1 _ (List.getElem_mem _)
          have hct:=limbs_times (wd n a) (wd k b) (l2.getD (n+k) 0) mm (wd_lt n a) (wd_lt k b) hlx (by omega)
          generalize hX:l2.getD (n+k) 0=X at *
          have HX:=Lib.hid hX;clear hX
          generalize hR:(wd n a*wd k b+X+mm)%18446744073709551616=R at *
          generalize hH:(wd n a*wd k b+X+mm) / 18446744073709551616=H at *
          have HI:=Lib.hid hI;have HS:=Lib.hid hstep;have HL:=Lib.hid hlen
          have G4:=Lib.hid g4;have G5:=Lib.hid g5;have HC:=Lib.hid hct
          clear hI hstep hlen g4 g5 hct hR hH
          go_wp2_with (go_at_call 265;refine (HC.out _).mono ?_;rintro e w1 ⟨rfl,rfl⟩)
          go_roundw
          case rel =>
            refine⟨k+1,H,l2.set (n+k) R,by omega,by go_num,rfl,HS.out,?_,g3.far (by simp) _,?_,?_,hbw.setCell (by simp;omega) _⟩
            · have:=g6.set_ (n+k) (.int .u64 ((R:Nat):Int))
              rw[u64s_set] at this
              exact this
            · obtain⟨cs,h1,h2⟩:=G4.out
              exact⟨cs,h1.far (by simp) _,h2⟩
            · obtain⟨cs,h1,h2⟩:=G5.out
              exact⟨cs,h1.far (by simp) _,h2⟩
          case measure=>simp[intOf];omega
        · obtain rfl:k=4:=by omega
          have hc:=g6.cell_at (u64s_get (l:=l2) (j:=n+4) (by omega))
          have hf:=g6.frozen (n+4)
          have hnx:=hI.next hb hlt
          have HS:=Lib.hid hnx
          have G4:=Lib.hid g4;have G5:=Lib.hid g5
          clear hI hlen g4 g5 hnx
          go_wp2
          go_roundw
          case rel =>
            refine⟨n+1,l2.set (n+4) mm,by omega,by go_num,HS.out,?_,g3.far (by simp) _,?_,?_,hbw.setCell (by simp;omega) _⟩
            · have:=g6.set_ (n+4) (.int .u64 ((mm:Nat):Int))
              rw[u64s_set] at this
              exact this
            · obtain⟨cs,h1,h2⟩:=G4.out
              exact⟨cs,h1.far (by simp) _,h2⟩
            · obtain⟨cs,h1,h2⟩:=G5.out
              exact⟨cs,h1.far (by simp) _,h2⟩
          case measure=>simp[intOf];omega
    · obtain rfl:n=4:=by omega
      have hI:=HI.out
      have hend:=mul_end hI ha
      have hlen:=hI.1
      have hbl:∀ j,j<8→l.getD j 0<18446744073709551616:=fun j hj=>by
        rw[List.getD_eq_getElem?_getD,List.getElem?_eq_getElem (by omega),Option.getD_some]
        exact hI.2.1 _ (List.getElem_mem _)
      have q:=fun j (hj:j<8)=>g6.cell_at (u64s_get (l:=l) (j:=j) (by omega))
      have e1:=numV_of (hbl 0 (by omega)) (hbl 1 (by omega)) (hbl 2 (by omega)) (hbl 3 (by omega))
      have e2:=numV_of (hbl 4 (by omega)) (hbl 5 (by omega)) (hbl 6 (by omega)) (hbl 7 (by omega))
      rw[hend.1] at e1
      rw[hend.2] at e2
      have c0:=q 0 (by omega);have c1:=q 1 (by omega);have c2:=q 2 (by omega);have c3:=q 3 (by omega)
      have c4:=q 4 (by omega);have c5:=q 5 (by omega);have c6:=q 6 (by omega);have c7:=q 7 (by omega)
      have E1:=Lib.hid e1;have E2:=Lib.hid e2
      obtain⟨cs4,k4,l4⟩:=G4.out
      obtain⟨cs5,k5,l5⟩:=G5.out
      match cs4,l4,cs5,l5 with
      | [p0,p1,p2,p3],_,[r0,r1,r2,r3],_ =>
      have a0:=k4.cell_at (i:=0) rfl;have a1:=k4.cell_at (i:=1) rfl;have a2:=k4.cell_at (i:=2) rfl;have a3:=k4.cell_at (i:=3) rfl
      have b0:=k5.cell_at (i:=0) rfl;have b1:=k5.cell_at (i:=1) rfl;have b2:=k5.cell_at (i:=2) rfl;have b3:=k5.cell_at (i:=3) rfl
      have ff4:=k4.frozen
      have ff5:=k5.frozen
      clear hend hlen hbl q e1 e2 G4 G5 HI hI
      generalize l.getD 0 0=x0 at *;generalize l.getD 1 0=x1 at *;generalize l.getD 2 0=x2 at *;generalize l.getD 3 0=x3 at *
      generalize l.getD 4 0=x4 at *;generalize l.getD 5 0=x5 at *;generalize l.getD 6 0=x6 at *;generalize l.getD 7 0=x7 at *
      have hat1:=fun w'=>run_arrayAt (w.heap.size+1+1+1+1) 0 8 w'
      have hat2:=fun w'=>run_arrayAt (w.heap.size+1+1+1+1) 4 4 w'
      go_wp2
      go_region
      go_wp2
      refine bodyPost_ret (v:=.tuple #[numV (a*b%B256),numV (a*b / B256)]) ?_ rfl ⟨rfl,?_⟩
      · rw[← E1.out,← E2.out]
        simp[results,Tryz.results235,go_sem,a0,a1,a2,a3,b0,b1,b2,b3]
      · ((repeat' (with_reducible first|exact hbw|refine Below.drew ?_|refine Below.drewN' ?_ _|refine Below.setCell ?_ ?_ _|refine Below.alloc ?_ ?_ _))<;>(first|omega|(simp;done)|(simp;omega)))
end Go.Proofs.YtmhligfnchegdaaGreatDoor
namespace Go.Proofs.YtmhligfnchegdaaGreatDoor
open Go.RowKit
attribute [local go_sem] run_eqin_num run_eqin_zero
theorem mods_word (a b m:Nat) (ha:a<m) (hb:b<m) (hm:m<18446744073709551616) (w:World) :
    Calls Tryz.prog 194 #[.int .u64 (a:Int),.int .u64 (b:Int),.int .u64 (m:Int)] w fun e w'=>e=.returned (.int .u64 ((a*b%m:Nat):Int))∧Below w.heap.size w w':=by
  have hM:=Tryz.bits_Mul64 a b (by omega) (by omega)
  have hlt:a*b / 18446744073709551616<m:=by
    rw[Nat.div_lt_iff_lt_mul (by omega)]
    have h1:a*b≤a*m:=Nat.mul_le_mul_left _ (by omega)
    have h2:a*m≤18446744073709551615*m:=Nat.mul_le_mul_right _ (by omega)
    omega
  have hD:=bits_Div64 (a*b / 18446744073709551616) (a*b%18446744073709551616) m (Nat.mod_lt _ (by omega)) hm hlt
  rw[show a*b / 18446744073709551616*18446744073709551616+a*b%18446744073709551616=a*b by rw[Nat.mul_comm (a*b / 18446744073709551616)];exact Nat.div_add_mod _ _] at hD
  generalize a*b%18446744073709551616=L at *
  generalize a*b / 18446744073709551616=H at *
  generalize a*b / m=q at *
  generalize a*b%m=r at *
  have HM:=Lib.hid hM
  have HD:=Lib.hid hD
  clear hM hD
  go_enter Tryz.func194,Tryz.ntmps194
  go_wp2_with (first|(go_at_call 233;refine (HM.out _).mono ?_;rintro e w1 ⟨rfl,rfl⟩)|(go_at_call 234;refine (HD.out _).mono ?_;rintro e w1 ⟨rfl,hb1⟩))
  go_ret
  exact⟨by simp,hb1⟩
theorem mods_times (a b m:Nat) (ha:a<m) (hb:b<m) (hm:m<B256) (w:World) :
    Calls Tryz.prog 197 #[numV a,numV b,numV m] w fun e w'=>e=.returned (numV (a*b%m))∧Below w.heap.size w w':=by
  have haB:a<B256:=by omega
  have hbB:b<B256:=by omega
  have hBi:=fun w=>limbs_Bits m hm w
  have hbw:Ext w w:=Ext.rfl' w
  by_cases hs:m<18446744073709551616
  · have hle:bitsN m≤64:=bitsN_le (by simpa using hs)
    have hdec:decide (((bitsN m:Nat):Int)≤64)=true:=by simp;omega
    have e1:wd 0 a=a:=Nat.mod_eq_of_lt (by omega)
    have e2:wd 0 b=b:=Nat.mod_eq_of_lt (by omega)
    have e3:wd 0 m=m:=Nat.mod_eq_of_lt (by omega)
    have hW:∀ w,Calls Tryz.prog 194 #[.int .u64 ((wd 0 a:Nat):Int),.int .u64 ((wd 0 b:Nat):Int),.int .u64 ((wd 0 m:Nat):Int)] w fun e w'=>e=.returned (.int .u64 ((a*b%m:Nat):Int))∧Below w.heap.size w w':=by
      rw[e1,e2,e3];exact fun w=>mods_word a b m ha hb hs w
    clear e1 e2 e3
    have hO:=fun w=>limbs_Of (a*b%m) (Nat.lt_trans (Nat.mod_lt _ (by omega)) hs) w
    generalize bitsN m=N at *
    generalize a*b%m=r at *
    go_enter Tryz.func197,Tryz.ntmps197
    go_wp2_with (first|(go_at_call 191;refine (hBi _).mono ?_;rintro e w1 ⟨rfl,hb1⟩;have g3:Blk w1 (w.heap.size) 24 (numC a):=Blk.below ((((Blk.new' (by first|rfl|(simp;done))).alloc _).alloc _).alloc _) hb1 (by first|(simp;done)|(simp;omega));have g4:Blk w1 (w.heap.size+1) 24 (numC b):=Blk.below (((Blk.new' (by first|rfl|(simp;done))).alloc _).alloc _) hb1 (by first|(simp;done)|(simp;omega));have g5:Blk w1 (w.heap.size+1+1) 24 (numC m):=Blk.below ((Blk.new' (by first|rfl|(simp;done))).alloc _) hb1 (by first|(simp;done)|(simp;omega));have g6:Blk w1 (w.heap.size+1+1+1) 24 (zeroC):=Blk.below (Blk.new' (by first|rfl|(simp;done))) hb1 (by first|(simp;done)|(simp;omega));replace hbw:=Ext.trans' (((((hbw).alloc' _).alloc' _).alloc' _).alloc' _) hb1;clear hb1 ;have g3_0:=g3.cell_at (i:=0) rfl;have g3_1:=g3.cell_at (i:=1) rfl;have g3_2:=g3.cell_at (i:=2) rfl;have g3_3:=g3.cell_at (i:=3) rfl;have g3_f:=g3.frozen;have g3_l:=g3.lt;have g3_m:=Nat.lt_succ_of_lt g3_l;have g3_n:=Nat.lt_succ_of_lt g3_m;have g4_0:=g4.cell_at (i:=0) rfl;have g4_1:=g4.cell_at (i:=1) rfl;have g4_2:=g4.cell_at (i:=2) rfl;have g4_3:=g4.cell_at (i:=3) rfl;have g4_f:=g4.frozen;have g4_l:=g4.lt;have g4_m:=Nat.lt_succ_of_lt g4_l;have g4_n:=Nat.lt_succ_of_lt g4_m;have g5_0:=g5.cell_at (i:=0) rfl;have g5_1:=g5.cell_at (i:=1) rfl;have g5_2:=g5.cell_at (i:=2) rfl;have g5_3:=g5.cell_at (i:=3) rfl;have g5_f:=g5.frozen;have g5_l:=g5.lt;have g5_m:=Nat.lt_succ_of_lt g5_l;have g5_n:=Nat.lt_succ_of_lt g5_m;have g6_0:=g6.cell_at (i:=0) rfl;have g6_1:=g6.cell_at (i:=1) rfl;have g6_2:=g6.cell_at (i:=2) rfl;have g6_3:=g6.cell_at (i:=3) rfl;have g6_f:=g6.frozen;have g6_l:=g6.lt;have g6_m:=Nat.lt_succ_of_lt g6_l;have g6_n:=Nat.lt_succ_of_lt g6_m)|(go_at_call 194;refine (hW _).mono ?_;rintro e w2 ⟨rfl,hb1⟩;replace g3:=Blk.below (g3) hb1 (by have:=g3.lt;first|exact this|(simp;omega));replace g4:=Blk.below (g4) hb1 (by have:=g4.lt;first|exact this|(simp;omega));replace g5:=Blk.below (g5) hb1 (by have:=g5.lt;first|exact this|(simp;omega));replace g6:=Blk.below (g6) hb1 (by have:=g6.lt;first|exact this|(simp;omega));replace hbw:=Ext.trans' (hbw) hb1;clear hb1 g3_0 g3_1 g3_2 g3_3 g3_f g3_l g3_m g3_n g4_0 g4_1 g4_2 g4_3 g4_f g4_l g4_m g4_n g5_0 g5_1 g5_2 g5_3 g5_f g5_l g5_m g5_n g6_0 g6_1 g6_2 g6_3 g6_f g6_l g6_m g6_n;have g6_0:=g6.cell_at (i:=0) rfl;have g6_1:=g6.cell_at (i:=1) rfl;have g6_2:=g6.cell_at (i:=2) rfl;have g6_3:=g6.cell_at (i:=3) rfl;have g6_f:=g6.frozen;have g6_l:=g6.lt;have g6_m:=Nat.lt_succ_of_lt g6_l;have g6_n:=Nat.lt_succ_of_lt g6_m)|(go_at_call 189;refine (hO _).mono ?_;rintro e w3 ⟨rfl,hb1⟩;replace g6:=Blk.below (g6) hb1 (by have:=g6.lt;first|exact this|(simp;omega));replace hbw:=Ext.trans' (hbw) hb1;clear hb1 g6_0 g6_1 g6_2 g6_3 g6_f g6_l g6_m g6_n;have g6_0:=g6.cell_at (i:=0) rfl;have g6_1:=g6.cell_at (i:=1) rfl;have g6_2:=g6.cell_at (i:=2) rfl;have g6_3:=g6.cell_at (i:=3) rfl;have g6_f:=g6.frozen;have g6_l:=g6.lt;have g6_m:=Nat.lt_succ_of_lt g6_l;have g6_n:=Nat.lt_succ_of_lt g6_m))
    have hsz:=hbw.size
    refine bodyPost_ret (v:=numV r) ?_ rfl ⟨rfl,?_⟩
    · simp[results,Tryz.results197,go_sem,g6_0,g6_1,g6_2,g6_3,g6_l]
    · ((repeat' (with_reducible first|exact hbw|refine Below.drew ?_|refine Below.drewN' ?_ _|refine Below.setCell ?_ ?_ _|refine Below.alloc ?_ ?_ _))<;>(first|omega|(simp;done)|(simp;omega)))
  · have hle:¬ bitsN m≤64:=by rw[bitsN_le_iff];simpa using hs
    have hdec:decide (((bitsN m:Nat):Int)≤64)=false:=by simp;omega
    have hM:=fun w=>limbs_Mul a b haB hbB w
    have hW:=fun w=>divides_Wide (a*b%B256) (a*b / B256) m (Nat.mod_lt _ B256_zero) (by
      rw[Nat.div_lt_iff_lt_mul B256_zero]
      exact Nat.mul_lt_mul'' haB hbB) hm (by omega) w
    rw[show a*b / B256*B256+a*b%B256=a*b by rw[Nat.mul_comm (a*b / B256)];exact Nat.div_add_mod _ _] at hW
    generalize bitsN m=N at *
    generalize a*b%m=r at *
    generalize a*b%B256=lo at *
    generalize a*b / B256=hi at *
    go_enter Tryz.func197,Tryz.ntmps197
    go_wp2_with (first|(go_at_call 191;refine (hBi _).mono ?_;rintro e w1 ⟨rfl,hb1⟩;have g3:Blk w1 (w.heap.size) 24 (numC a):=Blk.below ((((Blk.new' (by first|rfl|(simp;done))).alloc _).alloc _).alloc _) hb1 (by first|(simp;done)|(simp;omega));have g4:Blk w1 (w.heap.size+1) 24 (numC b):=Blk.below (((Blk.new' (by first|rfl|(simp;done))).alloc _).alloc _) hb1 (by first|(simp;done)|(simp;omega));have g5:Blk w1 (w.heap.size+1+1) 24 (numC m):=Blk.below ((Blk.new' (by first|rfl|(simp;done))).alloc _) hb1 (by first|(simp;done)|(simp;omega));have g6:Blk w1 (w.heap.size+1+1+1) 24 (zeroC):=Blk.below (Blk.new' (by first|rfl|(simp;done))) hb1 (by first|(simp;done)|(simp;omega));replace hbw:=Ext.trans' (((((hbw).alloc' _).alloc' _).alloc' _).alloc' _) hb1;clear hb1 ;have g3_0:=g3.cell_at (i:=0) rfl;have g3_1:=g3.cell_at (i:=1) rfl;have g3_2:=g3.cell_at (i:=2) rfl;have g3_3:=g3.cell_at (i:=3) rfl;have g3_f:=g3.frozen;have g3_l:=g3.lt;have g3_m:=Nat.lt_succ_of_lt g3_l;have g3_n:=Nat.lt_succ_of_lt g3_m;have g4_0:=g4.cell_at (i:=0) rfl;have g4_1:=g4.cell_at (i:=1) rfl;have g4_2:=g4.cell_at (i:=2) rfl;have g4_3:=g4.cell_at (i:=3) rfl;have g4_f:=g4.frozen;have g4_l:=g4.lt;have g4_m:=Nat.lt_succ_of_lt g4_l;have g4_n:=Nat.lt_succ_of_lt g4_m)|(go_at_call 235;refine (hM _).mono ?_;rintro e w2 ⟨rfl,hb1⟩;replace g3:=Blk.below (g3) hb1 (by have:=g3.lt;first|exact this|(simp;omega));replace g4:=Blk.below (g4) hb1 (by have:=g4.lt;first|exact this|(simp;omega));replace g5:=Blk.below (g5) hb1 (by have:=g5.lt;first|exact this|(simp;omega));replace g6:=Blk.below (g6) hb1 (by have:=g6.lt;first|exact this|(simp;omega));replace hbw:=Ext.trans' (hbw) hb1;clear hb1 g3_0 g3_1 g3_2 g3_3 g3_f g3_l g3_m g3_n g4_0 g4_1 g4_2 g4_3 g4_f g4_l g4_m g4_n;have g5_0:=g5.cell_at (i:=0) rfl;have g5_1:=g5.cell_at (i:=1) rfl;have g5_2:=g5.cell_at (i:=2) rfl;have g5_3:=g5.cell_at (i:=3) rfl;have g5_f:=g5.frozen;have g5_l:=g5.lt;have g5_m:=Nat.lt_succ_of_lt g5_l;have g5_n:=Nat.lt_succ_of_lt g5_m)|(go_at_call 207;refine (hW _).mono ?_;rintro e w3 ⟨rfl,hb1⟩;replace g5:=Blk.below (((g5).alloc _).alloc _) hb1 (by have:=g5.lt;first|exact this|(simp;omega));replace g6:=Blk.below (((g6).alloc _).alloc _) hb1 (by have:=g6.lt;first|exact this|(simp;omega));have g7:Blk w3 (w2.heap.size) 24 (numC lo):=Blk.below ((Blk.new' (by first|rfl|(simp;done))).alloc _) hb1 (by first|(simp;done)|(simp;omega));have g8:Blk w3 (w2.heap.size+1) 24 (numC hi):=Blk.below (Blk.new' (by first|rfl|(simp;done))) hb1 (by first|(simp;done)|(simp;omega));replace hbw:=Ext.trans' (((hbw).alloc' _).alloc' _) hb1;clear hb1 g5_0 g5_1 g5_2 g5_3 g5_f g5_l g5_m g5_n;have g6_0:=g6.cell_at (i:=0) rfl;have g6_1:=g6.cell_at (i:=1) rfl;have g6_2:=g6.cell_at (i:=2) rfl;have g6_3:=g6.cell_at (i:=3) rfl;have g6_f:=g6.frozen;have g6_l:=g6.lt;have g6_m:=Nat.lt_succ_of_lt g6_l;have g6_n:=Nat.lt_succ_of_lt g6_m))
    have hsz:=hbw.size
    refine bodyPost_ret (v:=numV r) ?_ rfl ⟨rfl,?_⟩
    · simp[results,Tryz.results197,go_sem,g6_0,g6_1,g6_2,g6_3,g6_l]
    · ((repeat' (with_reducible first|exact hbw|refine Below.drew ?_|refine Below.drewN' ?_ _|refine Below.setCell ?_ ?_ _|refine Below.alloc ?_ ?_ _))<;>(first|omega|(simp;done)|(simp;omega)))
end Go.Proofs.YtmhligfnchegdaaGreatDoor
namespace Go.Proofs.YtmhligfnchegdaaGreatDoor
open Go Go.RowKit
namespace Sx
theorem Fn.of {P:Program} {f:FuncId} {args:List Value} {v:Value} (h:∀ w,Calls P f args.toArray w fun e w'=>e=.returned v∧Below w.heap.size w w'):Fn P f args Tr (Is v) :=
  fun w _=>(h w).mono fun _ _ ⟨h1,h2⟩=>⟨v,[],h1,h2,.nil _ _,rfl⟩
theorem B256_one' : 1<B256:=by unfold B256;omega
theorem B256_of {n:Nat} (h:n<18446744073709551616):n<B256:=by unfold B256;omega
theorem c_Of (n:Nat) (h:n<18446744073709551616:=by omega):Fn Tryz.prog 189 [.int .u64 (n:Int)] Tr (Is (numV n)):=.of fun w=>limbs_Of n h w
theorem c_Of1:Fn Tryz.prog 189 [.int .u64 1] Tr (Is (numV 1)):=c_Of 1
theorem c_Of0:Fn Tryz.prog 189 [.int .u64 0] Tr (Is (numV 0)):=c_Of 0
theorem c_Cmp (a b:Nat) (ha:a<B256) (hb:b<B256):Fn Tryz.prog 188 [numV a,numV b] Tr (Is (.int .i64 (cmpN a b))):=.of fun w=>limbs_Cmp a b ha hb w
theorem c_Bits (a:Nat) (ha:a<B256):Fn Tryz.prog 191 [numV a] Tr (Is (.int .i64 (bitsN a:Nat))):=.of fun w=>limbs_Bits a ha w
theorem c_Bit (a:Nat) (i:Int) (ha:a<B256) (h0:0≤i) (h1:i≤1000000):Fn Tryz.prog 232 [numV a,.int .i64 i] Tr (Is (.int .u64 (bitN a i.toNat:Nat))):=.of fun w=>limbs_Bit a i ha h0 h1 w
theorem c_LAdd (a b:Nat) (ha:a<B256) (hb:b<B256):Fn Tryz.prog 239 [numV a,numV b] Tr (Is (.tuple #[numV ((a+b)%B256),.int .u64 (((a+b) / B256:Nat):Int)])):=.of fun w=>limbs_Add a b ha hb w
theorem c_LSub (a b:Nat) (ha:a<B256) (hb:b<B256):Fn Tryz.prog 231 [numV a,numV b] Tr (Is (.tuple #[numV ((a+B256 - b)%B256),.int .u64 ((bw a b 0:Nat):Int)])):=.of fun w=>limbs_Sub a b ha hb w
theorem c_Wide (lo hi m:Nat) (hlo:lo<B256) (hhi:hi<B256) (hm:m<B256) (h0:0<m):Fn Tryz.prog 207 [numV lo,numV hi,numV m] Tr (Is (.tuple #[numV ((hi*B256+lo)%m),.int .i64 0])):=.of fun w=>divides_Wide lo hi m hlo hhi hm h0 w
theorem c_times (a b m:Nat) (ha:a<m) (hb:b<m) (hm:m<B256):Fn Tryz.prog 197 [numV a,numV b,numV m] Tr (Is (numV (a*b%m))):=.of fun w=>mods_times a b m ha hb hm w
theorem c_word (a b m:Nat) (ha:a<m) (hb:b<m) (hm:m<18446744073709551616):Fn Tryz.prog 194 [.int .u64 (a:Int),.int .u64 (b:Int),.int .u64 (m:Int)] Tr (Is (.int .u64 ((a*b%m:Nat):Int))):=.of fun w=>mods_word a b m ha hb hm w
section
variable {w0:World} {gs:List Nat} {K:List (Nat × Value)} {L:List Ent}
theorem run_eqGuard_num (op:BinOp) (x y:Operand) (a b:Array Value) (w:World):(eqGuard op 24 x y (.agg a) (.agg b)).run Tryz.prog w=.ok () w:=by
  cases op<;>kernel_rfl
theorem a_eqNum {x y:Operand} {yt ty:TypeId} {a b:Nat} (hx:ev K x=some (numV a):=by rfl) (hy:ev K y=some (numV b):=by rfl) (ha:a<B256:=by first|assumption|omega|exact B256_one'|exact B256_zero) (hb:b<B256:=by first|assumption|omega|exact B256_one'|exact B256_zero) :
    Does Tryz.prog w0 gs K L (.binOp .eql 24 x y yt) ty (.bool (decide (a=b))):=by
  intro ac w hk _ o ho _
  have h1:=run_eq_num ha hb w
  simp only[execOp,ho,hk.eval hx,hk.eval hy,Sem.run_bind,run_eqGuard_num,Result.andThen_ok,h1,Sem.run_pure]
  rfl
theorem a_neqNum {x y:Operand} {yt ty:TypeId} {a b:Nat} (hx:ev K x=some (numV a):=by rfl) (hy:ev K y=some (numV b):=by rfl) (ha:a<B256:=by first|assumption|omega|exact B256_one'|exact B256_zero) (hb:b<B256:=by first|assumption|omega|exact B256_one'|exact B256_zero) :
    Does Tryz.prog w0 gs K L (.binOp .neq 24 x y yt) ty (.bool (decide (a≠b))):=by
  intro ac w hk _ o ho _
  have h1:=run_eqin_num ha hb w
  have h2:(binOp .neq 24 (numV a) (numV b)).run Tryz.prog w=.ok (.bool (!eqN a b)) w:=by
    show ((do pure (.bool (!(← Op.equal 24 (numV a) (numV b)))):Sem Value)).run Tryz.prog w=_
    simp only[Sem.run_bind]
    show ((Op.equalIn 10000 24 (numV a) (numV b)).run Tryz.prog w).andThen _=_
    rw[h1];rfl
  simp only[execOp,ho,hk.eval hx,hk.eval hy,Sem.run_bind,run_eqGuard_num,Result.andThen_ok,h2,Sem.run_pure]
  simp[eqN]
end
section
variable {p q:Prop}
theorem Tc (k:p) (h:p→q:=by first|exact fun k=>Tb k|exact fun k=>WO.does a_eqNum k|exact fun k=>WO.does a_neqNum k):q:=h k
theorem Df (k:p) (h:p→q:=by first|exact fun k=>DQ.auto (k:=k)|exact fun k=>DQ.autoF (k:=k)|exact fun k=>DQ.does (fun s _=>a_eqNum) Dp.const k|exact fun k=>DQ.does (fun s _=>a_neqNum) Dp.const k):q:=h k
theorem Dc (k:p) (h:p→q:=by first|exact fun k=>DQ.auto (k:=k)|exact fun k=>DQ.does (fun s _=>a_eqNum) Dp.const k|exact fun k=>DQ.does (fun s _=>a_neqNum) Dp.const k):q:=h k
end
end Sx
end Go.Proofs.YtmhligfnchegdaaGreatDoor
namespace Go.Proofs.YtmhligfnchegdaaGreatDoor
open Go Go.RowKit
namespace Sx
attribute [local irreducible] wd DQ DQS WO WC WX
set_option maxHeartbeats 1000000 in
theorem c_Rot (x n:Nat) (hx:x<4294967296) (h0:0<n) (hn:n<32):Fn Tryz.prog 274 [.int .u32 (x:Int),.int .i64 (-((n:Nat):Int))] Tr (Is (.int .u32 ((Sha.rotr n x:Nat):Int))):=by
  have h1:=neg_u64 h0 hn
  have h2:=and31 h0 hn
  have h3:IntKind.u64.wrap (32 - ((32 - n:Nat):Int))=((n:Nat):Int):=u64_in' (by omega) (by omega) (by omega)
  have h4:IntKind.u32.wrap (((BitVec.ofInt IntKind.u32.bits ((x*2 ^ (32 - n)%4294967296:Nat):Int) ||| BitVec.ofInt IntKind.u32.bits ((x / 2 ^ n:Nat):Int)).toNat:Nat):Int)=((Sha.rotr n x:Nat):Int):=by
    rw[or_u32 (Nat.mod_lt _ (by omega)) (Nat.lt_of_le_of_lt (Nat.div_le_self _ _) hx),Sha.rotr,Nat.or_comm]
  refine Fn.enter Tryz.func274 rfl rfl rfl ?_
  intro w hw
  repeat (first|refine Ta ?_|(refine Tm ?_;intro _)|refine WO.does (does_conv rfl h1) ?_|refine WO.does (does_and rfl rfl h2) ?_|refine WO.does (does_sub rfl rfl h3) ?_|refine WO.does (does_shl rfl rfl (by omega) (shl_u32 x (32 - n) (by omega))) ?_|refine WO.does (does_shr rfl rfl (by omega) (shr_nat (by show n≤32;omega))) ?_|refine WO.does (does_or rfl rfl h4) ?_|refine Tc ?_|exact Tz)
set_option maxHeartbeats 1000000 in
theorem c_mix (x b c:Nat) (ns:List Nat) (hx:x<4294967296) (hns:∀ n∈ns,0<n∧n<32) (hl:ns.length≤100) :
    Fn Tryz.prog 266 [.int .u32 (x:Int),.slice (some ⟨b,0,none⟩) ns.length c] (fun w=>Seg w b 0 (inC ns)) (Is (.int .u32 ((mixN x ns:Nat):Int))):=by
  refine Fn.enter Tryz.func266 rfl rfl rfl ?_
  intro w hw
  repeat (first|refine Ta ?_|(refine Tm ?_;intro _)|refine Tc ?_|exact Tz)
  refine WC.loopI (σ:=Nat) (fun i=>i≤ns.length) (fun i=>[(0,.int .u32 (x:Int)),(4,.int .u32 ((mixN x (ns.take i):Nat):Int)),(7,.slice (some ⟨b,0,none⟩) ns.length c),(8,.int .i64 (ns.length:Int)),(9,.int .i64 (i:Int))]) (fun _=>[]) (fun i=>ns.length - i) 0 (fun i hi=>?_) (Nat.zero_le _)
  try dsimp only at hi ⊢
  by_cases hlt:i<ns.length
  · have hget:(inC ns)[i - 0]?=some (.int .i64 ((ns[i]:Nat):Int)):=by rw[Nat.sub_zero];exact inC_get hlt
    have hn:=hns _ (List.getElem_mem hlt)
    have hR:=c_Rot x ns[i] hx hn.1 hn.2
    have hnext:mixN x (ns.take i) ^^^ Sha.rotr ns[i] x=mixN x (ns.take (i+1)):=by rw[List.take_succ_eq_append_getElem hlt,mixN_snoc]
    have hneg:IntKind.i64.wrap (0 - ((ns[i]:Nat):Int)) = -((ns[i]:Nat):Int):=i64_in' (by omega) (by omega) (by omega)
    have hxor:=xor_u32 (mixN_lt hx (ns.take i)) (rotr_lt (n:=ns[i]) hx)
    rw[hnext] at hxor
    repeat (first|refine Ta ?_|(refine Tm ?_;intro _)|refine Tc ?_|exact Tz)
    refine WC.dT rfl (by omega) ?_
    repeat (first|refine Ta ?_|(refine Tm ?_;intro _)|refine WO.acall (hc:=hR) (k:=?_)|(refine WO.does (does_neg rfl) ?_;rw[hneg])|refine WO.does (does_xor rfl rfl hxor) ?_|refine Tc ?_|exact Tz)
    refine WX.metI (i+1) (hs:=⟨by show i+1≤ns.length;omega,by show ns.length - (i+1)<ns.length - i;omega⟩)
  · have hii:i=ns.length:=by omega
    have hv:mixN x (ns.take i)=mixN x ns:=by rw[hii,List.take_length]
    rw[hv]
    repeat (first|refine Ta ?_|(refine Tm ?_;intro _)|refine Tc ?_|exact Tz)
    refine WC.dF rfl (by omega) ?_
    repeat (first|refine Ta ?_|(refine Tm ?_;intro _)|refine Tc ?_|exact Tz)
end Sx
end Go.Proofs.YtmhligfnchegdaaGreatDoor
namespace Go.Proofs.YtmhligfnchegdaaGreatDoor
open Go Go.RowKit Go.BigFrame
namespace Sx
attribute [local irreducible] wd DQ DQS WO WC WX
section
open Kp
variable {P:Program} {w0:World} {gs:List Nat} {n:Nat} {fl:List Nat} {Q:Exit→Act→World→Prop} {ops:List Oper} {L0:List Ent}
variable {tail rest:List Oper} {i:Nat} {C:Nums→Prop} {K:Nums→List (Nat × Value)} {N:Nums→List (Nat × Ent)}
variable {d:Nat} {op:Op} {ty:TypeId} {pos:String} {after:Array Edge} {gd:Option (Nat × Bool)}
theorem DQ.acallB {f:FuncId} [Cal P f] {xs:Array Operand} {ats:Array TypeId} {vs:Nums→List Value} {R:Nums→World→Prop} {v:Value} (j:Nat) (e:Nums→Ent) (hc:∀ s,Fn P f (vs s) (R s) (Is v)) (hR:∀ s w,Mr w0 gs (e s::L0) w→R s w)
    (k:DQ P w0 gs n fl Q ops L0 tail (i+1) rest C (fun s=>(d,v)::K s) N) (ha:∀ s,evs (K s) xs.toList=some (vs s):=by (intro s;rfl)) (hm:∀ s,(j,e s)∈N s:=by (intro s;repeat (first|exact .head _|apply List.Mem.tail)))
    (hanc:anc ops i j=true:=by decide +kernel) (hfl:fl.contains i=false:=by rfl) (hw:∀ s,wk ops (K s) gd=some true:=by intro _;rfl) (hd:Nat.blt d n=true:=by rfl) :
    DQ P w0 gs n fl Q ops L0 tail i (⟨some d,.call { callee:=.value (.func f),args:=xs,argTypes:=ats },ty,pos,after,gd⟩::rest) C K N :=
  DQ.callE (v:=fun _=>v) (fun s=>[e s]) (fun s=>.cons j (hm s) hanc .nil) (fun s _=>hc s) ha (fun s _ w h=>hR s w h) Dp.const k hfl hw hd
end
theorem c_begin:Fn Tryz.prog 199 [] Tr (Is (.agg (w3C Sha.H0).toArray)):=by
  refine Fn.enter Tryz.func199 rfl rfl rfl ?_
  intro w hw
  repeat (first|refine Ta ?_|(refine Tm ?_;intro _)|refine Tc ?_|exact Tz)
set_option maxRecDepth 100000 in
set_option maxHeartbeats 1000000 in
theorem c_steps:Fn Tryz.prog 267 [] Tr (Is (.agg (w3C Sha.K).toArray)):=by
  refine Fn.enter Tryz.func267 rfl rfl rfl ?_
  intro w hw
  repeat (first|refine Ta ?_|(refine Tm ?_;intro _)|refine WO.does (does_buildA (cs:=w3C Sha.K) rfl rfl (by kernel_rfl)) ?_|refine Tc ?_|exact Tz)
end Sx
end Go.Proofs.YtmhligfnchegdaaGreatDoor
namespace Go.Proofs.YtmhligfnchegdaaGreatDoor
open Go Go.RowKit Go.BigFrame
namespace Sx
def rz (x:Nat→Nat):List Nat:=(List.range (x 2)).map fun j=>x (3+j)
def zr (g c:Nat) (R:List Nat):Nat→Nat
  | 0=>g
  | 1=>c
  | 2=>R.length
  | j+3=>R.getD j 0
theorem rz_zr (g c:Nat) (R:List Nat):rz (zr g c R)=R:=by
  unfold rz
  apply List.ext_getElem
  · simp[zr]
  · intro i h1 h2
    simp[zr,show 3+i=i+3 by omega,List.getD,h2]
theorem Fn.exZ {P:Program} {f:FuncId} {fs:List Value} {R:World→Prop} {t:Nat} {X:List Nat} (h:Fn P f fs R (NewZ t X)) :
    Fn P f fs R (Ex (fun x=>.slice (some ⟨x 0,0,none⟩) X.length (x 1)) (fun x=>[⟨x 0,t,byC (X++rz x)⟩]) (fun x=>(X++rz x).length=x 1∧x 1<9223372036854775808)) :=
  Fn.weak h (fun _ h=>h) (fun v N ⟨g,c,R,e1,e2,h1,h2⟩=>⟨zr g c R,e1,by show N=[⟨g,t,byC (X++rz (zr g c R))⟩];rw[rz_zr];exact e2,by show (X++rz (zr g c R)).length=c∧c<9223372036854775808;rw[rz_zr];exact⟨h1,h2⟩⟩)
section
open Kp
variable {P:Program} {w0:World} {gs:List Nat} {n:Nat} {fl:List Nat} {Q:Exit→Act→World→Prop} {ops:List Oper} {L0:List Ent}
variable {tail rest:List Oper} {i:Nat} {C:Nums→Prop} {K:Nums→List (Nat × Value)} {N:Nums→List (Nat × Ent)}
variable {d:Nat} {op:Op} {ty:TypeId} {pos:String} {after:Array Edge} {gd:Option (Nat × Bool)}
theorem DQ.acallZ {f:FuncId} [Cal P f] {xs:Array Operand} {ats:Array TypeId} {vs:List Value} {Rq:World→Prop} {t:Nat} {X:List Nat} (hc:Fn P f vs Rq (NewZ t X)) (hR:∀ w,Rq w) (hX:X.length<9223372036854775808) (ha:∀ s,evs (K s) xs.toList=some vs:=by (intro s;rfl))
    (k:DQ P w0 gs n fl Q ops L0 tail (i+1) rest (fun s=>C s∧((X++rz (s i)).length=s i 1∧s i 1<9223372036854775808)) (fun s=>(d,.slice (some ⟨s i 0,0,none⟩) X.length (s i 1))::K s) (fun s=>(i,⟨s i 0,t,byC (X++rz (s i))⟩)::N s))
    (hfl:fl.contains i=false:=by rfl) (hw:∀ s,wk ops (K s) gd=some true:=by intro _;rfl) (hd:Nat.blt d n=true:=by rfl) :
    DQ P w0 gs n fl Q ops L0 tail i (⟨some d,.call { callee:=.value (.func f),args:=xs,argTypes:=ats },ty,pos,after,gd⟩::rest) C K N :=
  DQ.callsE (fs:=fun _=>[]) (cs:=fun _=>[]) (R:=fun _=>Rq) (vf:=fun _ x=>.slice (some ⟨x 0,0,none⟩) X.length (x 1)) (Nf:=fun _ x=>[⟨x 0,t,byC (X++rz x)⟩]) (S:=fun _ x=>(X++rz x).length=x 1∧x 1<9223372036854775808) (fun _=>[]) (fun _=>.nil)
    (fun _=>⟨zr 0 X.length [],by show (X++rz (zr 0 X.length [])).length=X.length∧X.length<9223372036854775808;rw[rz_zr];exact⟨by simp,hX⟩⟩) (fun _ _=>hc.exZ) (fun _=>rfl) ha (fun _=>by simp) (fun _ _ w _=>hR w) Dp.const Dp.const Dp.const k hfl hw hd
end
end Sx
end Go.Proofs.YtmhligfnchegdaaGreatDoor
