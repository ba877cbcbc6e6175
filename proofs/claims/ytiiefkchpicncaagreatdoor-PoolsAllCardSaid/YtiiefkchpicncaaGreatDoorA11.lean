/- Part 11 of the proof. -/
import Derived.Test.YtiiefkchpicncaaGreatDoorA10
import Derived.Deep.LoopGhost
import Derived.WalkMore
set_option linter.unusedSimpArgs false
set_option linter.unusedVariables false
set_option maxHeartbeats 8000000
namespace Go.Proofs.YtiiefkchpicncaaGreatDoor
section
open Go.RowKit
attribute [local go_sem] zY
theorem gy:Value.agg #[.int .u64 0,.int .u64 0,.int .u64 0,.int .u64 0]=zj 0:=sj 0 Om
theorem yx {a:Nat} (ha:a<zd) (w:World) :
  (Op.equalIn 10000 24 (zj a) (.agg #[.int .u64 0,.int .u64 0,.int .u64 0,.int .u64 0])).run Tryz.prog w=.ok (eqN a 0) w:=by
 rw[gy];exact zY ha (by unfold zd;omega) w
attribute [local go_sem] yx
theorem sf (hi lo y:Nat) (h1:lo<18446744073709551616) (h2:y<18446744073709551616) (h3:hi<y) (w:World) :
  Calls Tryz.prog 154 #[.int .u64 (hi:Int),.int .u64 (lo:Int),.int .u64 (y:Int)] w fun e w' =>
   e=.returned (.tuple #[.int .u64 (((hi*18446744073709551616+lo) / y:Nat):Int),.int .u64 (((hi*18446744073709551616+lo)%y:Nat):Int)])∧Below w.heap.size w w':=by
 rcases Nat.eq_zero_or_pos hi with rfl|h
 ·rw[Nat.zero_mul,Nat.zero_add];exact qw lo y h1 h2 Om w
 ·exact rZ hi lo y h1 h2 h h3 w
abbrev qC (D k:Nat):List Value:=[.int .u64 ((qc D k 0:Nat):Int),.int .u64 ((qc D k 1:Nat):Int),.int .u64 ((qc D k 2:Nat):Int),.int .u64 ((qc D k 3:Nat):Int)]
theorem adG (D k:Nat) {i:Nat} (h:i<4):(qC D k)[i]?=some (.int .u64 ((qc D k i:Nat):Int)):=by
 have:i=0∨i=1∨i=2∨i=3:=by omega
 rcases this with rfl|rfl|rfl|rfl<;>rfl
theorem adM (D:Nat) {k:Nat} (h:k<4):(qC D (k+1)).set k (.int .u64 ((wd k D:Nat):Int))=qC D k:=by
 have:k=0∨k=1∨k=2∨k=3:=by omega
 rcases this with rfl|rfl|rfl|rfl<;>simp[qC,qc]
theorem acY (D:Nat):qC D 0=zb D:=by simp[qC,qc]
theorem aba (D:Nat):qC D 4=td:=by simp[qC,qc]
abbrev aeC (r:Nat):List Value:=[.int .u64 ((r:Nat):Int),.int .u64 0,.int .u64 0,.int .u64 0]
theorem jr {r:Nat} (h:r<18446744073709551616):aeC r=zb r:=by
 have:=sj r h;simpa [zj] using this
set_option maxRecDepth 100000 in
theorem sd (a b:Nat) (ha:a<zd) (h0:0<b) (hs:b<18446744073709551616) (w:World) :
  Calls Tryz.prog 192 #[zj a,zj b] w fun e w'=>e=.returned (.tuple #[zj (a / b),zj (a%b),.int .i64 0])∧Below w.heap.size w w':=by
 have hbB:b<zd:=aaB b hs;have he:=qT (a:=b) (b:=0) Om;have hsh:uO b=true:=by simp[uO,hs]
 go_enter Tryz.func192,Tryz.ntmps192
 go_wp2_with (go_at_call 195;refine (ve b hbB _).mono ?_;rw[hsh];rintro e W ⟨rfl,hb1⟩;have hg2:Blk W w.heap.size 24 (zb a):=((((Blk.new _ _ _).alloc _).alloc _).alloc _).below hb1 (by simp;omega);have hg3:Blk W (w.heap.size+1) 24 (zb b):=(((Blk.new' (by simp)).alloc _).alloc _).below hb1 (by simp);have hg4:Blk W (w.heap.size+1+1) 24 td:=((Blk.new' (by simp)).alloc _).below hb1 (by simp);have hg5:Blk W (w.heap.size+1+1+1) 24 td:=(Blk.new' (by simp)).below hb1 (by simp);have hb:Ext w W:=(((((Ext.rfl' w).alloc' _).alloc' _).alloc' _).alloc' _).trans' hb1;clear hb1)
 go_loopw [7] (fun i wr=>∃ k:Nat,k≤4∧i=.int .i64 ((k:Int) - 1)∧Blk wr w.heap.size 24 (zb a)∧Blk wr (w.heap.size+1) 24 (zb b)∧Blk wr (w.heap.size+1+1) 24 (qC (a / b) k)∧Blk wr (w.heap.size+1+1+1) 24 (aeC (tY a b k))∧Ext w wr) (fun i _=>(intOf i+1).toNat)
 case atStart=>exact⟨4,by omega,rfl,hg2,hg3,by rw[aba];exact hg4,by rw[ej ha];exact hg5,hb⟩
 case round =>
  clear hg2 hg3 hg4 hg5 hb;obtain⟨k,hk,hi,hg2,hg3,hg4,hg5,hb⟩:=hrel
  rcases k with _|k
  ·obtain rfl:=hi;have hsz:=hb.size;rw[acY] at hg4;rw[jr (Nat.lt_trans (kK a 0 h0) hs),j1] at hg5;have hg4_0:=hg4.cell_at (i:=0) rfl;have hg4_1:=hg4.cell_at (i:=1) rfl;have hg4_2:=hg4.cell_at (i:=2) rfl;have hg4_3:=hg4.cell_at (i:=3) rfl;have hg4_f:=hg4.frozen;have hg4_l:=hg4.lt;have hg4_m:=Nat.lt_succ_of_lt hg4_l;have hg4_n:=Nat.lt_succ_of_lt hg4_m;have hg5_0:=hg5.cell_at (i:=0) rfl;have hg5_1:=hg5.cell_at (i:=1) rfl;have hg5_2:=hg5.cell_at (i:=2) rfl;have hg5_3:=hg5.cell_at (i:=3) rfl;have hg5_f:=hg5.frozen;have hg5_l:=hg5.lt;have hg5_m:=Nat.lt_succ_of_lt hg5_l;have hg5_n:=Nat.lt_succ_of_lt hg5_m;clear hg2 hg3;go_wp2;go_region;go_wp2;refine bodyPost_ret (v:=.tuple #[zj (a / b),zj (a%b),.int .i64 0]) ?_ rfl ⟨rfl,?_⟩
   ·simp[results,Tryz.results192,go_sem,hg4_0,hg4_1,hg4_2,hg4_3,hg5_0,hg5_1,hg5_2,hg5_3]
   ·((repeat' (with_reducible first|exact hb|refine Below.drew ?_|refine Below.drewN' ?_ _|refine Below.setCell ?_ ?_ _|refine Below.alloc ?_ ?_ _))<;>(first|omega|(simp;done)|(simp;omega)))
  ·have hk4:k<4:=by omega
   rw[show ((k+1:Nat):Int) - 1=(k:Int) by omega] at hi;subst hi;have hlo:=kK a (k+1) h0;have hD:=sf (tY a b (k+1)) (wd k a) b (z7 k a) hs hlo;rw[(nK a b k hk4 h0).1,(nK a b k hk4 h0).2] at hD;have hb0:wd 0 b=b:=Nat.mod_eq_of_lt hs;have c3:=hg3.cell_at (i:=0) rfl;rw[hb0] at c3;clear hb0;have c2:=hg2.cell_at (yV a hk4);have c5:=hg5.cell_at (i:=0) rfl;have hle:tY a b (k+1)≤18446744073709551615:=by omega
   have hle2:=adp k a;generalize hL:tY a b (k+1)=H at *;have HD:=Lib.hid hD;clear hD hL hlo;have hki:(k:Int)<4:=by omega
   have lt2:=hg2.lt;have lt3:=hg3.lt;have lt4:=hg4.lt;have lt5:=hg5.lt;go_wp2;refine Kp.wp_region_kpf [11] 12 (by kernel_rfl) (by kernel_rfl) (fun L Fin hL hFin=>?_);have HL:=Lib.hid hL;clear hL;have HF:=Lib.hid hFin;clear hFin;simp only[List.take_succ_cons,List.take_zero,List.drop_succ_cons,List.drop_zero];apply Exists.intro
   repeat ((first|(apply Kp.kp_free;(first|rfl|(rw[HL.out];rfl));(intro w1;go_simp;rfl))|(apply Kp.kp_now;rfl;(first|rfl|(rw[HL.out];rfl));(intro w1 hb1;obtain⟨hcw,hfw⟩:=uu hb1;clear hb1;go_simp;rfl)));simp only[Act.put,List.setIfInBounds_toArray,List.set_cons_succ,List.set_cons_zero])
   apply Kp.kp_val;rfl;(first|rfl|(rw[HL.out];rfl));(intro w1 hb1 _;obtain⟨hcw,hfw⟩:=uu hb1;refine Kp.kyp_call (by go_simp;first|rfl|exact⟨rfl,rfl⟩) ?_;refine (HD.out w1).mono ?_;rintro e w2 ⟨rfl,hb2⟩;exact⟨_,rfl,rfl,hb2⟩);simp only[Act.put,List.setIfInBounds_toArray,List.set_cons_succ,List.set_cons_zero]
   repeat ((first|(apply Kp.kp_free;(first|rfl|(rw[HL.out];rfl));(intro w1;go_simp;rfl))|(apply Kp.kp_now;rfl;(first|rfl|(rw[HL.out];rfl));(intro w1 hb1;obtain⟨hcw,hfw⟩:=uu hb1;clear hb1;go_simp;rfl)));simp only[Act.put,List.setIfInBounds_toArray,List.set_cons_succ,List.set_cons_zero])
   apply Kp.kp_nil;refine HF.out _ _ (fun w1 hb1 _=>?_);clear HL HF;simp only[List.drop_succ_cons,List.drop_zero];have g2:=hg2.below hb1 lt2;have g3:=hg3.below hb1 lt3;have hb2:=hb.trans' hb1;have g4:=hg4.below hb1 lt4;have g5:=hg5.below hb1 lt5;have c4:=g4.cell_at (adG (a / b) (k+1) hk4);have f4:=g4.frozen k;have c5:=g5.cell_at (i:=0) rfl;have f5:=g5.frozen 0;go_wp2;refine NoPanic.normal ?_;go_wp2
   go_roundw
   case rel =>
    refine⟨k,by omega,by go_num,(by ((repeat' (with_reducible first|exact g2|refine Blk.drew ?_|refine Blk.drewN ?_ _|refine Blk.far ?_ ?_ _|refine Blk.alloc ?_ _))<;>(first|omega|(simp;done)|(simp;omega)))),(by ((repeat' (with_reducible first|exact g3|refine Blk.drew ?_|refine Blk.drewN ?_ _|refine Blk.far ?_ ?_ _|refine Blk.alloc ?_ _))<;>(first|omega|(simp;done)|(simp;omega)))),?_,?_,(by ((repeat' (with_reducible first|exact hb2|refine Below.drew ?_|refine Below.drewN' ?_ _|refine Below.setCell ?_ ?_ _|refine Below.alloc ?_ ?_ _))<;>(first|omega|(simp;done)|(simp;omega))))⟩
    ·have:=(g4.set_ k (.int .u64 ((wd k (a / b):Nat):Int)));rw[adM (a / b) hk4] at this;exact this.far (by simp) _
    ·exact (g5.far (by simp) _).set_ 0 _
   case measure=>first|(simp[intOf];done)|(simp[intOf];omega)
end
section
open Go.RowKit
attribute [local go_sem] zY yx
theorem bS (D m:Nat) (h:m<256):(zb (vb D (m+1))).set (m / 64) (.int .u64 ((wd (m / 64) (vb D m):Nat):Int))=zb (vb D m):=by
 have:m / 64=0∨m / 64=1∨m / 64=2∨m / 64=3:=by omega
 have ho:=fun j (h1:j<4) (h2:j≠m / 64)=>jZ D m h1 h2
 rcases this with e|e|e|e<;>rw[e] at ho ⊢<;>simp[zb,ho]
theorem abM (x Q m:Nat) (hx:x<18446744073709551616) (hQ:Q≤1):bits .or .u64 (x:Int) (IntKind.u64.wrap ((Q:Int)*2 ^ min (m%64) 64))=((x ||| Q*2 ^ (m%64):Nat):Int):=by
 have h1:m%64<64:=Nat.mod_lt _ Om;have h2:Q*2 ^ (m%64)<18446744073709551616:=by
  have:2 ^ (m%64)≤2 ^ 63:=Nat.pow_le_pow_right Om Om;have h3:Q*2 ^ (m%64)≤1*2 ^ (m%64):=Nat.mul_le_mul_right _ hQ;have h4:(2:Nat) ^ 63=9223372036854775808:=by decide
  omega
 rw[Nat.min_eq_left Om,show ((Q:Int)*2 ^ (m%64))=((Q*2 ^ (m%64):Nat):Int) by simp,kM h2,u64_or_nat _ _ hx h2]
set_option maxRecDepth 100000 in
theorem sG (a b:Nat) (ha:a<zd) (hbB:b<zd) (h0:0<b) (hs:¬ b<18446744073709551616) (w:World) :
  Calls Tryz.prog 192 #[zj a,zj b] w fun e w'=>e=.returned (.tuple #[zj (a / b),zj (a%b),.int .i64 0])∧Below w.heap.size w w':=by
 have he:=qT (a:=b) (b:=0) Om;have hsh:uO b=false:=by simp[uO,hs]
 have hN:zC a≤256:=yU (by simpa [zd] using ha);have hlt:=tx a;have hBits:=fun w=>uT a ha w;generalize zC a=N at *
 go_enter Tryz.func192,Tryz.ntmps192
 go_wp2_with (first|(go_at_call 195;refine (ve b hbB _).mono ?_;rw[hsh];rintro e W ⟨rfl,hb1⟩;have hg2:Blk W w.heap.size 24 (zb a):=((((Blk.new _ _ _).alloc _).alloc _).alloc _).below hb1 (by simp;omega);have hg3:Blk W (w.heap.size+1) 24 (zb b):=(((Blk.new' (by simp)).alloc _).alloc _).below hb1 (by simp);have hg4:Blk W (w.heap.size+1+1) 24 td:=((Blk.new' (by simp)).alloc _).below hb1 (by simp);have hg5:Blk W (w.heap.size+1+1+1) 24 td:=(Blk.new' (by simp)).below hb1 (by simp);have hb:Ext w W:=(((((Ext.rfl' w).alloc' _).alloc' _).alloc' _).alloc' _).trans' hb1;clear hb1;have hg2_0:=hg2.cell_at (i:=0) rfl;have hg2_1:=hg2.cell_at (i:=1) rfl;have hg2_2:=hg2.cell_at (i:=2) rfl;have hg2_3:=hg2.cell_at (i:=3) rfl;have hg2_f:=hg2.frozen;have hg2_l:=hg2.lt;have hg2_m:=Nat.lt_succ_of_lt hg2_l;have hg2_n:=Nat.lt_succ_of_lt hg2_m)|(go_at_call 106;refine (hBits _).mono ?_;rintro e W2 ⟨rfl,hb1⟩;replace hg2:=hg2.below hb1 hg2.lt;replace hg3:=hg3.below hb1 hg3.lt;replace hg4:=hg4.below hb1 hg4.lt;replace hg5:=hg5.below hb1 hg5.lt;replace hb:=hb.trans' hb1;clear hb1 hg2_0 hg2_1 hg2_2 hg2_3 hg2_f hg2_l))
 go_loopw [44] (fun i wr=>∃ k m:Nat,k+m=N∧i=.int .i64 (k:Int)∧Blk wr w.heap.size 24 (zb a)∧Blk wr (w.heap.size+1) 24 (zb b)∧Blk wr (w.heap.size+1+1) 24 (zb (vb (a / b) m))∧Blk wr (w.heap.size+1+1+1) 24 (zb (a / 2 ^ m%b))∧Ext w wr) (fun i _=>N - (intOf i).toNat)
 case atStart=>exact⟨0,N,by omega,rfl,hg2,hg3,by rw[eo (Nat.lt_of_le_of_lt (Nat.div_le_self _ _) hlt)];exact hg4,by rw[Nat.div_eq_of_lt hlt,Nat.zero_mod];exact hg5,hb⟩
 case round =>
  clear hg2 hg3 hg4 hg5 hb;obtain⟨k,m,hkm,rfl,hg2,hg3,hg4,hg5,hb⟩:=hrel
  rcases m with _|m
  ·obtain rfl:k=N:=by omega
   have hsz:=hb.size;rw[tD] at hg4;rw[Nat.pow_zero,Nat.div_one] at hg5;have hg4_0:=hg4.cell_at (i:=0) rfl;have hg4_1:=hg4.cell_at (i:=1) rfl;have hg4_2:=hg4.cell_at (i:=2) rfl;have hg4_3:=hg4.cell_at (i:=3) rfl;have hg4_f:=hg4.frozen;have hg4_l:=hg4.lt;have hg4_m:=Nat.lt_succ_of_lt hg4_l;have hg4_n:=Nat.lt_succ_of_lt hg4_m;have hg5_0:=hg5.cell_at (i:=0) rfl;have hg5_1:=hg5.cell_at (i:=1) rfl;have hg5_2:=hg5.cell_at (i:=2) rfl;have hg5_3:=hg5.cell_at (i:=3) rfl;have hg5_f:=hg5.frozen;have hg5_l:=hg5.lt;have hg5_m:=Nat.lt_succ_of_lt hg5_l;have hg5_n:=Nat.lt_succ_of_lt hg5_m;clear hg2 hg3;go_wp2;go_region;go_wp2;refine bodyPost_ret (v:=.tuple #[zj (a / b),zj (a%b),.int .i64 0]) ?_ rfl ⟨rfl,?_⟩
   ·simp[results,Tryz.results192,go_sem,hg4_0,hg4_1,hg4_2,hg4_3,hg5_0,hg5_1,hg5_2,hg5_3]
   ·((repeat' (with_reducible first|exact hb|refine Below.drew ?_|refine Below.drewN' ?_ _|refine Below.setCell ?_ ?_ _|refine Below.alloc ?_ ?_ _))<;>(first|omega|(simp;done)|(simp;omega)))
  ·have hkN:(k:Int)<(N:Int):=by omega
   have hi:(N:Int) - 1 - (k:Int)=(m:Int):=by omega
   have hm:m<256:=by omega
   have hB:=fun w=>rx a (m:Int) ha Om Om w;rw[Int.toNat_natCast] at hB;have hb1:=rh a m;have hX:=sq (a / 2 ^ (m+1)%b) (uf a m) b (Nat.mod_lt _ h0) hbB hb1;unfold eC dU at hX;rw[(kh (a:=a) m h0).1,(kh (a:=a) m h0).2] at hX;have hq1:=rh (a / b) m;have hor:=eZ (a / b) m hm;have hset:=bS (a / b) m hm;generalize uf a m=B at *;generalize uf (a / b) m=Q at *;generalize a / 2 ^ (m+1)%b=r0 at *;generalize hr1:a / 2 ^ m%b=r1 at *;generalize vb (a / b) (m+1)=T0 at *;generalize hT1:vb (a / b) m=T1 at *;have hval:=abM (wd (m / 64) T0) Q m (z7 _ _) hq1;rw[hor] at hval;have HO:=Lib.hid hval;have HS:=Lib.hid hset;have HR:=Lib.hid hr1;have HT:=Lib.hid hT1;clear hor hset hval hr1 hT1;have hg2_0:=hg2.cell_at (i:=0) rfl;have hg2_1:=hg2.cell_at (i:=1) rfl;have hg2_2:=hg2.cell_at (i:=2) rfl;have hg2_3:=hg2.cell_at (i:=3) rfl;have hg2_f:=hg2.frozen;have hg2_l:=hg2.lt;have hg2_m:=Nat.lt_succ_of_lt hg2_l;have hg2_n:=Nat.lt_succ_of_lt hg2_m;have hg3_0:=hg3.cell_at (i:=0) rfl;have hg3_1:=hg3.cell_at (i:=1) rfl;have hg3_2:=hg3.cell_at (i:=2) rfl;have hg3_3:=hg3.cell_at (i:=3) rfl;have hg3_f:=hg3.frozen;have hg3_l:=hg3.lt;have hg3_m:=Nat.lt_succ_of_lt hg3_l;have hg3_n:=Nat.lt_succ_of_lt hg3_m;have hg5_0:=hg5.cell_at (i:=0) rfl;have hg5_1:=hg5.cell_at (i:=1) rfl;have hg5_2:=hg5.cell_at (i:=2) rfl;have hg5_3:=hg5.cell_at (i:=3) rfl;have hg5_f:=hg5.frozen;have hg5_l:=hg5.lt;have hg5_m:=Nat.lt_succ_of_lt hg5_l;have hg5_n:=Nat.lt_succ_of_lt hg5_m;have lt4:=hg4.lt;go_wp2;refine Kp.wp_region_kpf [8] 9 (by kernel_rfl) (by kernel_rfl) (fun L Fin hL hFin=>?_);have HL:=Lib.hid hL;clear hL;have HF:=Lib.hid hFin;clear hFin;simp only[List.take_succ_cons,List.take_zero,List.drop_succ_cons,List.drop_zero];apply Exists.intro
   repeat ((first|(apply Kp.kp_free;(first|rfl|(rw[HL.out];rfl));(intro w1;go_simp;rfl))|(apply Kp.kp_now;rfl;(first|rfl|(rw[HL.out];rfl));(intro w1 hb1;obtain⟨hcw,hfw⟩:=uu hb1;clear hb1;go_simp;rfl)));simp only[Act.put,List.setIfInBounds_toArray,List.set_cons_succ,List.set_cons_zero])
   apply Kp.kp_val;rfl;(first|rfl|(rw[HL.out];rfl));(intro w1 hb1 _;obtain⟨hcw,hfw⟩:=uu hb1;refine Kp.kyp_call (by go_simp;first|rfl|exact⟨rfl,rfl⟩) ?_;refine (hB w1).mono ?_;rintro e w2 ⟨rfl,hb2⟩;exact⟨_,rfl,rfl,hb2⟩);simp only[Act.put,List.setIfInBounds_toArray,List.set_cons_succ,List.set_cons_zero]
   repeat ((first|(apply Kp.kp_free;(first|rfl|(rw[HL.out];rfl));(intro w1;go_simp;rfl))|(apply Kp.kp_now;rfl;(first|rfl|(rw[HL.out];rfl));(intro w1 hb1;obtain⟨hcw,hfw⟩:=uu hb1;clear hb1;go_simp;rfl)));simp only[Act.put,List.setIfInBounds_toArray,List.set_cons_succ,List.set_cons_zero])
   apply Kp.kp_val;rfl;(first|rfl|(rw[HL.out];rfl));(intro w1 hb1 _;obtain⟨hcw,hfw⟩:=uu hb1;refine Kp.kyp_call (by go_simp;first|rfl|exact⟨rfl,rfl⟩) ?_;refine (hX w1).mono ?_;rintro e w2 ⟨rfl,hb2⟩;exact⟨_,rfl,rfl,hb2⟩);simp only[Act.put,List.setIfInBounds_toArray,List.set_cons_succ,List.set_cons_zero]
   repeat ((first|(apply Kp.kp_free;(first|rfl|(rw[HL.out];rfl));(intro w1;go_simp;rfl))|(apply Kp.kp_now;rfl;(first|rfl|(rw[HL.out];rfl));(intro w1 hb1;obtain⟨hcw,hfw⟩:=uu hb1;clear hb1;go_simp;rfl)));simp only[Act.put,List.setIfInBounds_toArray,List.set_cons_succ,List.set_cons_zero])
   apply Kp.kp_nil;refine HF.out _ _ (fun w1 hb1 _=>?_);clear HL HF;simp only[List.drop_succ_cons,List.drop_zero];replace hg2:=hg2.below hb1 hg2_l;replace hg3:=hg3.below hb1 hg3_l;replace hg4:=hg4.below hb1 lt4;replace hg5:=hg5.below hb1 hg5_l;replace hb:=hb.trans' hb1;clear hb1 hg2_0 hg2_1 hg2_2 hg2_3 hg2_f hg2_l hg3_0 hg3_1 hg3_2 hg3_3 hg3_f hg3_l hg5_0 hg5_1 hg5_2 hg5_3 hg5_f hg5_l lt4;have hg5_0:=hg5.cell_at (i:=0) rfl;have hg5_1:=hg5.cell_at (i:=1) rfl;have hg5_2:=hg5.cell_at (i:=2) rfl;have hg5_3:=hg5.cell_at (i:=3) rfl;have hg5_f:=hg5.frozen;have hg5_l:=hg5.lt;have hg5_m:=Nat.lt_succ_of_lt hg5_l;have hg5_n:=Nat.lt_succ_of_lt hg5_m;go_wp2;refine NoPanic.normal ?_;go_wp2;generalize hw3:(((w1.setCell _ _).setCell _ _).setCell _ _).setCell _ _=w3;have k2:Blk w3 w.heap.size 24 (zb a):=by subst hw3;((repeat' (with_reducible first|exact hg2|refine Blk.drew ?_|refine Blk.drewN ?_ _|refine Blk.far ?_ ?_ _|refine Blk.alloc ?_ _))<;>(first|omega|(simp;done)|(simp;omega)))
   have k3:Blk w3 (w.heap.size+1) 24 (zb b):=by subst hw3;((repeat' (with_reducible first|exact hg3|refine Blk.drew ?_|refine Blk.drewN ?_ _|refine Blk.far ?_ ?_ _|refine Blk.alloc ?_ _))<;>(first|omega|(simp;done)|(simp;omega)))
   have k4:Blk w3 (w.heap.size+1+1) 24 (zb T0):=by subst hw3;((repeat' (with_reducible first|exact hg4|refine Blk.drew ?_|refine Blk.drewN ?_ _|refine Blk.far ?_ ?_ _|refine Blk.alloc ?_ _))<;>(first|omega|(simp;done)|(simp;omega)))
   have k5:Blk w3 (w.heap.size+1+1+1) 24 (zb r1):=by subst hw3;exact (((hg5.set_ 0 _).set_ 1 _).set_ 2 _).set_ 3 _
   have hb3:Ext w w3:=by subst hw3;have hsz:=hb.size;((repeat' (with_reducible first|exact hb|refine Below.drew ?_|refine Below.drewN' ?_ _|refine Below.setCell ?_ ?_ _|refine Below.alloc ?_ ?_ _))<;>(first|omega|(simp;done)|(simp;omega)))
   clear hw3 hg2 hg3 hg4 hg5 hb hg5_0 hg5_1 hg5_2 hg5_3 hg5_f hg5_l;have hq:m / 64<4:=by omega
   have c4:=k4.cell_at (yV T0 hq);have f4:=k4.frozen (m / 64);have l4:=k4.lt;have hq1:(m:Int) / 64<4:=by omega
   have hq0:0≤(m:Int) / 64:=by omega
   have hq2:IntKind.i64.wrap ((m:Int) / 64)=(m:Int) / 64:=by rw[IntKind.wrap_i64];omega
   have hq3:((m:Int) / 64).toNat=m / 64:=by omega
   refine Kp.wp_region_kpl 8 (by kernel_rfl) (by kernel_rfl) (fun L Fin hL hFin=>?_);have HL:=Lib.hid hL;clear hL;have HF:=Lib.hid hFin;clear hFin;simp only[List.take_succ_cons,List.take_zero,List.drop_succ_cons,List.drop_zero];apply Exists.intro
   repeat ((first|(apply Kp.kp_free;(first|rfl|(rw[HL.out];rfl));(intro w1;go_simp;rfl))|(apply Kp.kp_now;rfl;(first|rfl|(rw[HL.out];rfl));(intro w1 hb1;obtain⟨hcw,hfw⟩:=uu hb1;clear hb1;go_simp;rfl)));simp only[Act.put,List.setIfInBounds_toArray,List.set_cons_succ,List.set_cons_zero])
   apply Kp.kp_nil;refine HF.out _ _ (fun w5 hb5 _=>?_);clear HL HF;simp only[List.drop_succ_cons,List.drop_zero];have c6:=(k4.below hb5 l4).cell_at (yV T0 hq);have f6:=(k4.below hb5 l4).frozen (m / 64);go_wp2
   go_roundw
   case rel =>
    replace k2:=k2.below hb5 k2.lt;replace k3:=k3.below hb5 k3.lt;replace k4:=k4.below hb5 k4.lt;replace k5:=k5.below hb5 k5.lt;replace hb3:=hb3.trans' hb5;rw[HO.out];refine⟨k+1,m,by omega,by go_num,(by ((repeat' (with_reducible first|exact k2|refine Blk.drew ?_|refine Blk.drewN ?_ _|refine Blk.far ?_ ?_ _|refine Blk.alloc ?_ _))<;>(first|omega|(simp;done)|(simp;omega)))),(by ((repeat' (with_reducible first|exact k3|refine Blk.drew ?_|refine Blk.drewN ?_ _|refine Blk.far ?_ ?_ _|refine Blk.alloc ?_ _))<;>(first|omega|(simp;done)|(simp;omega)))),?_,?_,(by ((repeat' (with_reducible first|exact hb3|refine Below.drew ?_|refine Below.drewN' ?_ _|refine Below.setCell ?_ ?_ _|refine Below.alloc ?_ ?_ _))<;>(first|omega|(simp;done)|(simp;omega))))⟩
    ·rw[HT.out,← HS.out];exact k4.set_ _ _
    ·rw[HR.out]
     ((repeat' (with_reducible first|exact k5|refine Blk.drew ?_|refine Blk.drewN ?_ _|refine Blk.far ?_ ?_ _|refine Blk.alloc ?_ _))<;>(first|omega|(simp;done)|(simp;omega)))
   case measure=>first|(simp[intOf];done)|(simp[intOf];omega)
theorem rc (a b:Nat) (ha:a<zd) (hb:b<zd) (h0:0<b) (w:World) :
  Calls Tryz.prog 192 #[zj a,zj b] w fun e w'=>e=.returned (.tuple #[zj (a / b),zj (a%b),.int .i64 0])∧Below w.heap.size w w':=by
 by_cases hs:b<18446744073709551616
 ·exact sd a b ha h0 hs w
 ·exact sG a b ha hb h0 hs w
end
section
open Go.RowKit
attribute [local go_sem] zY yx
theorem zy:0<zd:=by unfold zd;omega
set_option maxRecDepth 100000 in
theorem qj (a b:Nat) (ha:a<zd) (hb:b<zd) (w:World) :
  Calls Tryz.prog 191 #[zj a,zj b] w fun e w'=>e=.returned (zj (Nat.gcd a b))∧Below w.heap.size w w':=by
 have hz:=zy
 go_enter Tryz.func191,Tryz.ntmps191
 go_wp2;generalize hW:((w.alloc _).alloc _).alloc _=W;have g2:Blk W w.heap.size 24 (zb a):=by subst hW;exact ((Blk.new _ _ _).alloc _).alloc _
 have g3:Blk W (w.heap.size+1) 24 (zb b):=by subst hW;exact (Blk.new' (by simp)).alloc _
 have g4:Blk W (w.heap.size+1+1) 24 td:=by subst hW;exact Blk.new' (by simp)
 have hbw:Ext w W:=by subst hW;exact (((Ext.rfl' w).alloc' _).alloc' _).alloc' _
 clear hW
 go_step3
 go_wp2
 go_step3
 go_wp2
 go_loopg [] b (fun g wr=>∃ x y:Nat,y=g∧x<zd∧y<zd∧Nat.gcd x y=Nat.gcd a b∧Blk wr w.heap.size 24 (zb x)∧Blk wr (w.heap.size+1) 24 (zb y)∧Blk wr (w.heap.size+1+1) 24 td∧Ext w wr)
 case atStart=>exact⟨a,b,rfl,ha,hb,rfl,g2,g3,g4,hbw⟩
 case round =>
  clear g2 g3 g4 hbw;obtain⟨x,y,rfl,hx,hy,hg,g2,g3,g4,hbw⟩:=hrel;have g2_0:=g2.cell_at (i:=0) rfl;have g2_1:=g2.cell_at (i:=1) rfl;have g2_2:=g2.cell_at (i:=2) rfl;have g2_3:=g2.cell_at (i:=3) rfl;have g2_f:=g2.frozen;have g2_l:=g2.lt;have g2_m:=Nat.lt_succ_of_lt g2_l;have g2_n:=Nat.lt_succ_of_lt g2_m;have g3_0:=g3.cell_at (i:=0) rfl;have g3_1:=g3.cell_at (i:=1) rfl;have g3_2:=g3.cell_at (i:=2) rfl;have g3_3:=g3.cell_at (i:=3) rfl;have g3_f:=g3.frozen;have g3_l:=g3.lt;have g3_m:=Nat.lt_succ_of_lt g3_l;have g3_n:=Nat.lt_succ_of_lt g3_m
  by_cases h0:y=0
  ·subst h0;rw[Nat.gcd_zero_right] at hg;subst hg;have he:=iS (a:=0) (b:=0) rfl;have g4_0:=g4.cell_at (i:=0) rfl;have g4_1:=g4.cell_at (i:=1) rfl;have g4_2:=g4.cell_at (i:=2) rfl;have g4_3:=g4.cell_at (i:=3) rfl;have g4_f:=g4.frozen;have g4_l:=g4.lt;have g4_m:=Nat.lt_succ_of_lt g4_l;have g4_n:=Nat.lt_succ_of_lt g4_m;go_wp2;rw[Exit.noGoto_ret];refine bodyPost_ret (v:=zj (a.gcd b)) ?_ rfl ⟨rfl,?_⟩
   ·simp[results,Tryz.results191,go_sem,g4_0,g4_1,g4_2,g4_3]
   ·have hsz:=hbw.size
    ((repeat' (with_reducible first|exact hbw|refine Below.drew ?_|refine Below.drewN' ?_ _|refine Below.setCell ?_ ?_ _|refine Below.alloc ?_ ?_ _))<;>(first|omega|(simp;done)|(simp;omega)))
  ·have he:=qT h0;have hD:=fun w=>rc x y hx hy Om w;have hlt:x%y<y:=Nat.mod_lt _ Om;have hgg:Nat.gcd y (x%y)=Nat.gcd a b:=by rw[← hg,Nat.gcd_comm x y,Nat.gcd_rec y x,Nat.gcd_comm]
   clear hg;generalize x%y=r at *;generalize x / y=q at *
   go_wp2_with (go_at_call 192;refine (hD _).mono ?_;rintro e w1 ⟨rfl,hb1⟩;replace g2:=g2.below hb1 g2_l;replace g3:=g3.below hb1 g3_l;replace g4:=g4.below hb1 g4.lt;replace hbw:=hbw.trans' hb1;clear hb1 g2_0 g2_1 g2_2 g2_3 g2_f g2_l g3_0 g3_1 g3_2 g3_3 g3_f g3_l;have g2_0:=g2.cell_at (i:=0) rfl;have g2_1:=g2.cell_at (i:=1) rfl;have g2_2:=g2.cell_at (i:=2) rfl;have g2_3:=g2.cell_at (i:=3) rfl;have g2_f:=g2.frozen;have g2_l:=g2.lt;have g2_m:=Nat.lt_succ_of_lt g2_l;have g2_n:=Nat.lt_succ_of_lt g2_m;have g3_0:=g3.cell_at (i:=0) rfl;have g3_1:=g3.cell_at (i:=1) rfl;have g3_2:=g3.cell_at (i:=2) rfl;have g3_3:=g3.cell_at (i:=3) rfl;have g3_f:=g3.frozen;have g3_l:=g3.lt;have g3_m:=Nat.lt_succ_of_lt g3_l;have g3_n:=Nat.lt_succ_of_lt g3_m)
   go_region;have lt4:=g4.lt;go_wp2
   go_roundg r
   case measure=>exact hlt
   case rel =>
    refine⟨y,r,rfl,hy,by omega,hgg,(by ((repeat' (with_reducible first|exact g2|refine Blk.drew ?_|refine Blk.drewN ?_ _|apply Blk.put4|refine Blk.far ?_ ?_ _|refine Blk.alloc ?_ _))<;>(first|omega|(simp;done)|(simp;omega)))),(by ((repeat' (with_reducible first|exact g3|refine Blk.drew ?_|refine Blk.drewN ?_ _|apply Blk.put4|refine Blk.far ?_ ?_ _|refine Blk.alloc ?_ _))<;>(first|omega|(simp;done)|(simp;omega)))),(by ((repeat' (with_reducible first|exact g4|refine Blk.drew ?_|refine Blk.drewN ?_ _|refine Blk.far ?_ ?_ _|refine Blk.alloc ?_ _))<;>(first|omega|(simp;done)|(simp;omega)))),?_⟩;have hsz:=hbw.size
    ((repeat' (with_reducible first|exact hbw|refine Below.drew ?_|refine Below.drewN' ?_ _|refine Below.setCell ?_ ?_ _|refine Below.alloc ?_ ?_ _))<;>(first|omega|(simp;done)|(simp;omega)))
end
section
open Go.RowKit
attribute [local go_sem] zY yx
theorem fX {a r0 m j:Nat} (hj:j<256) :
  eC ((r0*2 ^ j+a / 2 ^ (256 - j))%m) (uf a (255 - j)) m=(r0*2 ^ (j+1)+a / 2 ^ (256 - (j+1)))%m:=by
 have hs:=jw a (255 - j);rw[show 255 - j+1=256 - j by omega] at hs;unfold eC;rw[show 256 - (j+1)=255 - j by omega,hs,Nat.pow_succ];generalize a / 2 ^ (256 - j)=x;generalize uf a (255 - j)=d;have e:r0*(2 ^ j*2)+(x+x+d)=(r0*2 ^ j+x)+(r0*2 ^ j+x)+d:=by rw[← Nat.mul_assoc];omega
 rw[e];generalize r0*2 ^ j+x=y;simp[Nat.add_mod]
theorem ik (r0 a m:Nat) (ha:a<zd) (hr:r0<m):(r0*2 ^ 0+a / 2 ^ (256 - 0))%m=r0:=by
 rw[Nat.div_eq_of_lt (by simpa [zd] using ha)];simp[Nat.mod_eq_of_lt hr]
theorem iV (r0 a m:Nat):(r0*2 ^ 256+a / 2 ^ (256 - 256))%m=(r0*zd+a)%m:=by simp[zd]
def lT (hi lo i:Nat):Nat:=if i=0 then hi else lo
theorem cv {hi lo:Nat} (i:Nat) (h1:hi<zd) (h2:lo<zd):lT hi lo i<zd:=by unfold lT;split<;>assumption
def bH (hi lo m:Nat):Nat→Nat
 | 0=>0
 | i+1=>(bH hi lo m i*zd+lT hi lo i)%m
theorem aaY {hi lo m:Nat} (i:Nat) (h0:0<m):bH hi lo m i<m:=by
 cases i with
 | zero=>exact h0
 | succ i=>exact Nat.mod_lt _ h0
theorem fS:zb 0=td:=rfl
abbrev aeY (hi lo:Nat):Value:=.agg #[.int .u64 ((wd 0 hi:Nat):Int),.int .u64 ((wd 1 hi:Nat):Int),.int .u64 ((wd 2 hi:Nat):Int),.int .u64 ((wd 3 hi:Nat):Int),.int .u64 ((wd 0 lo:Nat):Int),.int .u64 ((wd 1 lo:Nat):Int),.int .u64 ((wd 2 lo:Nat):Int),.int .u64 ((wd 3 lo:Nat):Int)]
theorem qB (hi lo:Nat) (w:World):(Instr.index 294 (aeY hi lo) (.int .i64 0)).run Tryz.prog w=.ok (zj hi) w:=by kernel_rfl
theorem qp (hi lo:Nat) (w:World):(Instr.index 294 (aeY hi lo) (.int .i64 1)).run Tryz.prog w=.ok (zj lo) w:=by kernel_rfl
theorem oJ (hi lo:Nat) {i:Nat} (h:i<2) (w:World):(Instr.index 294 (aeY hi lo) (.int .i64 (i:Int))).run Tryz.prog w=.ok (zj (lT hi lo i)) w:=by
 have:i=0∨i=1:=by omega
 rcases this with rfl|rfl
 ·exact qB hi lo w
 ·exact qp hi lo w
set_option maxRecDepth 100000 in
theorem sn (lo hi m:Nat) (hlo:lo<zd) (hhi:hi<zd) (hmB:m<zd) (h0:0<m) (hs:¬ m<18446744073709551616) (w:World) :
  Calls Tryz.prog 156 #[zj lo,zj hi,zj m] w fun e w'=>e=.returned (.tuple #[zj ((hi*zd+lo)%m),.int .i64 0])∧Below w.heap.size w w':=by
 have he:=qT (a:=m) (b:=0) Om;have hsh:uO m=false:=by simp[uO,hs]
 go_enter Tryz.func156,Tryz.ntmps156
 go_wp2_with (go_at_call 195;refine (ve m hmB _).mono ?_;rw[hsh];rintro e W ⟨rfl,hb1⟩;have g3:Blk W w.heap.size 24 (zb lo):=((((Blk.new _ _ _).alloc _).alloc _).alloc _).below hb1 (by simp;omega);have g4:Blk W (w.heap.size+1) 24 (zb hi):=(((Blk.new' (by simp)).alloc _).alloc _).below hb1 (by simp);have g5:Blk W (w.heap.size+1+1) 24 (zb m):=((Blk.new' (by simp)).alloc _).below hb1 (by simp);have g6:Blk W (w.heap.size+1+1+1) 24 td:=(Blk.new' (by simp)).below hb1 (by simp);have hb:Ext w W:=(((((Ext.rfl' w).alloc' _).alloc' _).alloc' _).alloc' _).trans' hb1;clear hb1;have g3_0:=g3.cell_at (i:=0) rfl;have g3_1:=g3.cell_at (i:=1) rfl;have g3_2:=g3.cell_at (i:=2) rfl;have g3_3:=g3.cell_at (i:=3) rfl;have g3_f:=g3.frozen;have g3_l:=g3.lt;have g3_m:=Nat.lt_succ_of_lt g3_l;have g3_n:=Nat.lt_succ_of_lt g3_m;have g4_0:=g4.cell_at (i:=0) rfl;have g4_1:=g4.cell_at (i:=1) rfl;have g4_2:=g4.cell_at (i:=2) rfl;have g4_3:=g4.cell_at (i:=3) rfl;have g4_f:=g4.frozen;have g4_l:=g4.lt;have g4_m:=Nat.lt_succ_of_lt g4_l;have g4_n:=Nat.lt_succ_of_lt g4_m)
 clear g3 g4 g3_0 g3_1 g3_2 g3_3 g3_f g3_l g4_0 g4_1 g4_2 g4_3 g4_f g4_l
 go_loopw [44] (fun i wr=>∃ n:Nat,n≤2∧i=.int .i64 (n:Int)∧Blk wr (w.heap.size+1+1) 24 (zb m)∧Blk wr (w.heap.size+1+1+1) 24 (zb (bH hi lo m n))∧Ext w wr) (fun i _=>2 - (intOf i).toNat)
 case atStart=>exact⟨0,by omega,rfl,g5,by rw[show bH hi lo m 0=0 from rfl,fS];exact g6,hb⟩
 case round =>
  clear g5 g6 hb;obtain⟨n,hn,rfl,g5,g6,hb⟩:=hrel
  by_cases hlt:n<2
  ·have hix:=oJ hi lo hlt;have hdec:decide ((n:Int)<2)=true:=by simp;omega
   have hpk:=cv n hhi hlo;have hst:=aaY n (hi:=hi) (lo:=lo) h0;have hnx:(bH hi lo m n*zd+lT hi lo n)%m=bH hi lo m (n+1):=rfl;generalize lT hi lo n=a at *;generalize bH hi lo m n=r0 at *;obtain⟨wo,rfl⟩ : ∃ wo:World,wo=wr:=⟨_,rfl⟩;have g6_l:=g6.lt;go_wp2
   go_loopw [47] (fun i wr=>∃ j:Nat,j≤256∧i=.int .i64 (j:Int)∧Blk wr (w.heap.size+1+1) 24 (zb m)∧Blk wr (w.heap.size+1+1+1) 24 (zb ((r0*2 ^ j+a / 2 ^ (256 - j))%m))∧Blk wr wo.heap.size 24 (zb a)∧Ext w wr) (fun i _=>256 - (intOf i).toNat)
   case atStart=>exact⟨0,by omega,rfl,(by ((repeat' (with_reducible first|exact g5|refine Blk.drew ?_|refine Blk.drewN ?_ _|refine Blk.far ?_ ?_ _|refine Blk.alloc ?_ _))<;>(first|omega|(simp;done)|(simp;omega)))),by rw[ik r0 a m hpk hst];((repeat' (with_reducible first|exact g6|refine Blk.drew ?_|refine Blk.drewN ?_ _|refine Blk.far ?_ ?_ _|refine Blk.alloc ?_ _))<;>(first|omega|(simp;done)|(simp;omega))),Blk.new' rfl,hb.alloc' _⟩
   case round =>
    clear hix g5 g6;obtain⟨j,hj,rfl,g5,g6,g12,hb2⟩:=hrel
    by_cases hjt:j<256
    ·have hjd:decide ((j:Int)<256)=true:=by simp;omega
     have hi:(255:Int) - (j:Int)=((255 - j:Nat):Int):=by omega
     have hB:=fun w=>rx a ((255:Int) - (j:Int)) hpk Om Om w;rw[show ((255:Int) - (j:Int)).toNat=255 - j by omega] at hB;have hb1:=rh a (255 - j);have hX:=sq ((r0*2 ^ j+a / 2 ^ (256 - j))%m) (uf a (255 - j)) m (Nat.mod_lt _ h0) hmB hb1;rw[fX hjt] at hX;have hwr:IntKind.i64.wrap ((255:Int) - (j:Int))=(255:Int) - (j:Int):=by rw[IntKind.wrap_i64];omega
     generalize dU _ _ _=Q at *;generalize uf a (255 - j)=B at *;generalize (r0*2 ^ j+a / 2 ^ (256 - j))%m=r1 at *;generalize hR:(r0*2 ^ (j+1)+a / 2 ^ (256 - (j+1)))%m=r2 at *;have HR:=Lib.hid hR;clear hR hi;have g5_0:=g5.cell_at (i:=0) rfl;have g5_1:=g5.cell_at (i:=1) rfl;have g5_2:=g5.cell_at (i:=2) rfl;have g5_3:=g5.cell_at (i:=3) rfl;have g5_f:=g5.frozen;have g5_l:=g5.lt;have g5_m:=Nat.lt_succ_of_lt g5_l;have g5_n:=Nat.lt_succ_of_lt g5_m;have g6_0:=g6.cell_at (i:=0) rfl;have g6_1:=g6.cell_at (i:=1) rfl;have g6_2:=g6.cell_at (i:=2) rfl;have g6_3:=g6.cell_at (i:=3) rfl;have g6_f:=g6.frozen;have g6_l:=g6.lt;have g6_m:=Nat.lt_succ_of_lt g6_l;have g6_n:=Nat.lt_succ_of_lt g6_m;have g12_0:=g12.cell_at (i:=0) rfl;have g12_1:=g12.cell_at (i:=1) rfl;have g12_2:=g12.cell_at (i:=2) rfl;have g12_3:=g12.cell_at (i:=3) rfl;have g12_f:=g12.frozen;have g12_l:=g12.lt;have g12_m:=Nat.lt_succ_of_lt g12_l;have g12_n:=Nat.lt_succ_of_lt g12_m;go_wp2;refine Kp.wp_region_kpf [9] 10 (by kernel_rfl) (by kernel_rfl) (fun L Fin hL hFin=>?_);have HL:=Lib.hid hL;clear hL;have HF:=Lib.hid hFin;clear hFin;simp only[List.take_succ_cons,List.take_zero,List.drop_succ_cons,List.drop_zero];apply Exists.intro
     repeat ((first|(apply Kp.kp_free;(first|rfl|(rw[HL.out];rfl));(intro w1;go_simp;rfl))|(apply Kp.kp_now;rfl;(first|rfl|(rw[HL.out];rfl));(intro w1 hb1;obtain⟨hcw,hfw⟩:=uu hb1;clear hb1;go_simp;rfl)));simp only[Act.put,List.setIfInBounds_toArray,List.set_cons_succ,List.set_cons_zero])
     apply Kp.kp_val;rfl;(first|rfl|(rw[HL.out];rfl));(intro w1 hb1 _;obtain⟨hcw,hfw⟩:=uu hb1;refine Kp.kyp_call (by go_simp;first|rfl|exact⟨rfl,rfl⟩) ?_;refine (hB w1).mono ?_;rintro e w2 ⟨rfl,hb2⟩;exact⟨_,rfl,rfl,hb2⟩);simp only[Act.put,List.setIfInBounds_toArray,List.set_cons_succ,List.set_cons_zero]
     repeat ((first|(apply Kp.kp_free;(first|rfl|(rw[HL.out];rfl));(intro w1;go_simp;rfl))|(apply Kp.kp_now;rfl;(first|rfl|(rw[HL.out];rfl));(intro w1 hb1;obtain⟨hcw,hfw⟩:=uu hb1;clear hb1;go_simp;rfl)));simp only[Act.put,List.setIfInBounds_toArray,List.set_cons_succ,List.set_cons_zero])
     apply Kp.kp_val;rfl;(first|rfl|(rw[HL.out];rfl));(intro w1 hb1 _;obtain⟨hcw,hfw⟩:=uu hb1;refine Kp.kyp_call (by go_simp;first|rfl|exact⟨rfl,rfl⟩) ?_;refine (hX w1).mono ?_;rintro e w2 ⟨rfl,hb2⟩;exact⟨_,rfl,rfl,hb2⟩);simp only[Act.put,List.setIfInBounds_toArray,List.set_cons_succ,List.set_cons_zero]
     repeat ((first|(apply Kp.kp_free;(first|rfl|(rw[HL.out];rfl));(intro w1;go_simp;rfl))|(apply Kp.kp_now;rfl;(first|rfl|(rw[HL.out];rfl));(intro w1 hb1;obtain⟨hcw,hfw⟩:=uu hb1;clear hb1;go_simp;rfl)));simp only[Act.put,List.setIfInBounds_toArray,List.set_cons_succ,List.set_cons_zero])
     apply Kp.kp_nil;refine HF.out _ _ (fun w1 hb1 _=>?_);clear HL HF;simp only[List.drop_succ_cons,List.drop_zero];replace g5:=g5.below hb1 g5_l;replace g6:=g6.below hb1 g6_l;replace g12:=g12.below hb1 g12_l;replace hb2:=hb2.trans' hb1;clear hb1 g5_0 g5_1 g5_2 g5_3 g5_f g5_l g6_0 g6_1 g6_2 g6_3 g6_f g6_l g12_0 g12_1 g12_2 g12_3 g12_f g12_l;have g6_0:=g6.cell_at (i:=0) rfl;have g6_1:=g6.cell_at (i:=1) rfl;have g6_2:=g6.cell_at (i:=2) rfl;have g6_3:=g6.cell_at (i:=3) rfl;have g6_f:=g6.frozen;have g6_l:=g6.lt;have g6_m:=Nat.lt_succ_of_lt g6_l;have g6_n:=Nat.lt_succ_of_lt g6_m;go_wp2;refine NoPanic.normal ?_;go_wp2
     go_roundw
     case rel =>
      have hsz:=hb2.size;have hsw:=hb.size;have hne:w.heap.size+1+1+1<wo.heap.size:=by omega
      refine⟨j+1,by omega,by go_num,(by ((repeat' (with_reducible first|exact g5|refine Blk.drew ?_|refine Blk.drewN ?_ _|refine Blk.far ?_ ?_ _|refine Blk.alloc ?_ _))<;>(first|omega|(simp;done)|(simp;omega)))),?_,(by ((repeat' (with_reducible first|exact g12|refine Blk.drew ?_|refine Blk.drewN ?_ _|refine Blk.far ?_ ?_ _|refine Blk.alloc ?_ _))<;>(first|omega|(simp;done)|(simp;omega)))),(by ((repeat' (with_reducible first|exact hb2|refine Below.drew ?_|refine Below.drewN' ?_ _|refine Below.setCell ?_ ?_ _|refine Below.alloc ?_ ?_ _))<;>(first|omega|(simp;done)|(simp;omega))))⟩;rw[HR.out]
      ((repeat' (with_reducible first|exact g6|refine Blk.drew ?_|refine Blk.drewN ?_ _|apply Blk.put4|refine Blk.far ?_ ?_ _|refine Blk.alloc ?_ _))<;>(first|omega|(simp;done)|(simp;omega)))
     case measure=>first|(simp[intOf];done)|(simp[intOf];omega)
    ·obtain rfl:j=256:=by omega
     have hjd:decide (((256:Nat):Int)<256)=false:=by simp
     go_wp2
     go_roundw
     case rel =>
      refine⟨n+1,by omega,by go_num,g5,?_,hb2⟩;rw[iV,hnx] at g6;exact g6
     case measure=>first|(simp[intOf];done)|(simp[intOf];omega)
  ·obtain rfl:n=2:=by omega
   have hst:bH hi lo m 2=(hi*zd+lo)%m:=by
    simp only[bH,lT,if_true,Nat.zero_mul,Nat.zero_add,Nat.one_ne_zero,if_false];rw[Nat.add_mod,Nat.mul_mod,Nat.mod_mod,← Nat.mul_mod,← Nat.add_mod]
   rw[hst] at g6;have hdec:decide (((2:Nat):Int)<2)=false:=by simp
   have g6_0:=g6.cell_at (i:=0) rfl;have g6_1:=g6.cell_at (i:=1) rfl;have g6_2:=g6.cell_at (i:=2) rfl;have g6_3:=g6.cell_at (i:=3) rfl;have g6_f:=g6.frozen;have g6_l:=g6.lt;have g6_m:=Nat.lt_succ_of_lt g6_l;have g6_n:=Nat.lt_succ_of_lt g6_m;have hsz:=hb.size;go_wp2;refine bodyPost_ret (v:=.tuple #[zj ((hi*zd+lo)%m),.int .i64 0]) ?_ rfl ⟨rfl,?_⟩
   ·simp[results,Tryz.results156,go_sem,g6_0,g6_1,g6_2,g6_3]
   ·((repeat' (with_reducible first|exact hb|refine Below.drew ?_|refine Below.drewN' ?_ _|refine Below.setCell ?_ ?_ _|refine Below.alloc ?_ ?_ _))<;>(first|omega|(simp;done)|(simp;omega)))
end
section
open Go.RowKit Go.Shelf
attribute [local go_sem] zY yx
attribute [local go_sem] Oper.semAt_some
theorem aaJ (g j:Nat):Addr.add ⟨g,0,none⟩ j=⟨g,j,none⟩:=by unfold Addr.add;split<;>simp_all
theorem cM (a b K m:Nat):(a%m*K+b)%m=(a*K+b)%m:=by rw[Nat.add_mod,Nat.mul_mod,Nat.mod_mod,← Nat.mul_mod,← Nat.add_mod]
def jJ (K m:Nat) (l:List (Nat × U64)):Nat:=l.foldl (fun r x=>(r*K+x.2.1)%m) 0
theorem ix (K m:Nat) (l:List (Nat × U64)) (x:Nat × U64):jJ K m (l++[x])=(jJ K m l*K+x.2.1)%m:=by
 unfold jJ;rw[List.foldl_append];rfl
theorem ll (K m:Nat) (x0 x1 x2 x3 x4 x5 x6 x7:Nat × U64):jJ K m [x0,x1,x2,x3,x4,x5,x6,x7]=((((((((0*K+x0.2.1)*K+x1.2.1)*K+x2.2.1)*K+x3.2.1)*K+x4.2.1)*K+x5.2.1)*K+x6.2.1)*K+x7.2.1)%m:=by
 simp only[jJ,List.foldl_cons,List.foldl_nil,cM]
def qm (m:Nat) (l:List (Nat × U64)):Nat:=jJ 18446744073709551616 m l
theorem qX (m:Nat) (l:List (Nat × U64)) (x:Nat × U64):qm m (l++[x])=(qm m l*18446744073709551616+x.2.1)%m:=ix _ m l x
theorem ki (m:Nat) (h0:0<m) (l:List (Nat × U64)):qm m l<m:=by
 rcases List.eq_nil_or_concat l with rfl|⟨l,x,rfl⟩
 ·exact h0
 ·rw[List.concat_eq_append,qX];exact Nat.mod_lt _ h0
def uK (i n:Nat):U64:=⟨wd i n,z7 i n⟩
def su (lo hi:Nat):List U64:=[uK 0 lo,uK 1 lo,uK 2 lo,uK 3 lo,uK 0 hi,uK 1 hi,uK 2 hi,uK 3 hi]
theorem eI (lo hi m:Nat) (hlo:lo<zd) (hhi:hi<zd):qm m (upto (sI (su lo hi)) 8)=(hi*zd+lo)%m:=by
 have e:upto (sI (su lo hi)) 8=[(7,uK 3 hi),(6,uK 2 hi),(5,uK 1 hi),(4,uK 0 hi),(3,uK 3 lo),(2,uK 2 lo),(1,uK 1 lo),(0,uK 0 lo)]:=rfl;have h1:=vq hlo;have h2:=vq hhi;rw[e];unfold qm;rw[ll];simp only[uK];generalize wd 0 hi=a0 at *;generalize wd 1 hi=a1 at *;generalize wd 2 hi=a2 at *;generalize wd 3 hi=a3 at *;generalize wd 0 lo=b0 at *;generalize wd 1 lo=b1 at *;generalize wd 2 lo=b2 at *;generalize wd 3 lo=b3 at *;have e2:(((((((0*18446744073709551616+a3)*18446744073709551616+a2)*18446744073709551616+a1)*18446744073709551616+a0)*18446744073709551616+b3)*18446744073709551616+b2)*18446744073709551616+b1)*18446744073709551616+b0=hi*zd+lo:=by
  rw[← h1,← h2];simp only[uX,zd];omega
 rw[e2]
theorem Blk.far' {w:World} {g D:Nat} {t:TypeId} {cs:List Value} {o:Obj} (h:Blk w g t cs) (hD:D≠g):Blk (w.putObj D o) g t cs:=h.grown (grownBy_putObj' w D o) (fun e=>hD (by cases e;rfl))
theorem mC {B:Nat} {w:World} {e:TypeId} {v:Value} {lo hi:Nat} (h:w.ownsRow B e 1 v ((zb lo).length+(zb hi).length) (zb lo++zb hi)) :
  ∃ g cap,v=.slice (some ⟨g,0,none⟩) 8 cap∧B≤g∧g<w.heap.size∧∀ j,j<8→w.cell? ⟨g,j,none⟩=some (.int .u64 (((su lo hi)[j]?.getD default).1:Int)):=by
 rcases h.2 with ⟨_,h0⟩|⟨g,cap,cur,rfl,hB,hh,hnc,hcm,hcs,ht⟩
 ·simp at h0
 ·refine⟨g,cap,rfl,hB,(Array.getElem?_eq_some_iff.1 hh).1,fun j hj=>?_⟩;rw[cell_of_row w g j cur e (0,0) hh];have hq:cur.toList[j]?=(zb lo++zb hi)[j]?:=by
   rw[← ht,List.getElem?_take,if_pos (by simp;omega)]
  rw[← Array.getElem?_toList,hq];have:j=0∨j=1∨j=2∨j=3∨j=4∨j=5∨j=6∨j=7:=by omega
  rcases this with rfl|rfl|rfl|rfl|rfl|rfl|rfl|rfl<;>rfl
set_option maxRecDepth 100000 in
theorem tu (lo hi m:Nat) (hlo:lo<zd) (hhi:hi<zd) (h0:0<m) (hs:m<18446744073709551616) (w:World) :
  Calls Tryz.prog 156 #[zj lo,zj hi,zj m] w fun e w'=>e=.returned (.tuple #[zj ((hi*zd+lo)%m),.int .i64 0])∧Below w.heap.size w w':=by
 have hmB:m<zd:=aaB m hs;have he:=qT (a:=m) (b:=0) Om;have hsh:uO m=true:=by simp[uO,hs]
 refine (callsIn_wide (n:=3)).1 ?_;refine callsIn_of_wp_marks Tryz.func156 rfl trivial ?_ rfl;simp only[Tryz.ntmps156,List.size_toArray,List.length_cons,List.length_nil,Nat.reduceAdd,Nat.reduceSub,Array.replicate_succ,Array.replicate_zero,List.push_toArray,List.append_toArray,List.nil_append,List.cons_append];refine wpIn_wide.2 ?_
 go_wp2_with (go_at_call 195;refine (ve m hmB _).mono ?_;rw[hsh];rintro e W ⟨rfl,hb1⟩;have g3:Blk W w.heap.size 24 (zb lo):=((((Blk.new _ _ _).alloc _).alloc _).alloc _).below hb1 (by simp;omega);have g4:Blk W (w.heap.size+1) 24 (zb hi):=(((Blk.new' (by simp)).alloc _).alloc _).below hb1 (by simp);have g5:Blk W (w.heap.size+1+1) 24 (zb m):=((Blk.new' (by simp)).alloc _).below hb1 (by simp);have g6:Blk W (w.heap.size+1+1+1) 24 td:=(Blk.new' (by simp)).below hb1 (by simp);have hb:Ext w W:=(((((Ext.rfl' w).alloc' _).alloc' _).alloc' _).alloc' _).trans' hb1;clear hb1)
 have lt3:=g3.lt;have lt4:=g4.lt;refine Kp.wp_region_kpl 2 (by kernel_rfl) (by kernel_rfl) (fun L Fin hL hFin=>?_);have HL:=Lib.hid hL;clear hL;have HF:=Lib.hid hFin;clear hFin;simp only[List.take_succ_cons,List.take_zero,List.drop_succ_cons,List.drop_zero];apply Exists.intro
 repeat ((first|(apply Kp.kp_free;(first|rfl|(rw[HL.out];rfl));(intro w1;go_simp;rfl))|(apply Kp.kp_now;rfl;(first|rfl|(rw[HL.out];rfl));(intro w1 hb1;obtain⟨hcw,hfw⟩:=uu hb1;clear hb1;go_simp;rfl)));simp only[Act.put,List.setIfInBounds_toArray,List.set_cons_succ,List.set_cons_zero])
 apply Kp.kp_nil;refine HF.out _ _ (fun w1 hb1 _=>?_);clear HL HF;simp only[List.drop_succ_cons,List.drop_zero];replace g3:=g3.below hb1 lt3;replace g4:=g4.below hb1 lt4;replace g5:=g5.below hb1 g5.lt;replace g6:=g6.below hb1 g6.lt;replace hb:=hb.trans' hb1;clear hb1 lt3 lt4;have l6:=g6.lt;have r3:Rd w1 (.slice (some ⟨w.heap.size,0,none⟩) 4 4) (zb lo):=⟨by simp[Value.oneCell'],.inr ⟨_,_,rfl,g3.lt,fun j u hj=>by rw[aaJ];exact g3.cell_at hj⟩⟩;have r4:Rd w1 (.slice (some ⟨w.heap.size+1,0,none⟩) 4 4) (zb hi):=⟨by simp[Value.oneCell'],.inr ⟨_,_,rfl,g4.lt,fun j u hj=>by rw[aaJ];exact g4.cell_at hj⟩⟩
 go_wp2_with (first|(go_at_call 196;refine (tR _ _ _ _ w1.heap.size 2 _ (r3.below rfl ((Below.refl _ _).alloc (Nat.le_refl _) _)) (r4.below rfl ((Below.refl _ _).alloc (Nat.le_refl _) _)) (Blk.new' rfl) (by simp) (by simp)).mono ?_;rintro e W2 ⟨v,rfl,hown,hb2⟩;obtain⟨g,cap,rfl,hgB,hgl,hcells⟩:=mC hown;replace g5:Blk W2 (w.heap.size+1+1) 24 (zb m):=(g5.alloc _).below hb2 (by have:=g5.lt;simp;omega);replace g6:Blk W2 (w.heap.size+1+1+1) 24 td:=(g6.alloc _).below hb2 (by have:=g6.lt;simp;omega);replace hb:Ext w W2:=(hb.alloc' _).trans' hb2;clear hb2 hown r3 r4 g3 g4)|(go_at_call 197;refine (rM _ _ _ _).mono ?_;rintro e W3 ⟨rfl,rfl⟩))
 have hbx:(W2.alloc (.cells #[.slice (some ⟨g,0,none⟩) 8 cap] 185)).cell? ⟨W2.heap.size,0,none⟩=some (.slice (some ⟨g,0,none⟩) 8 cap):=(Blk.new W2 185 [.slice (some ⟨g,0,none⟩) 8 cap]).cell_at (i:=0) rfl;have hcx:∀ j,j<(su lo hi).length→(W2.alloc (.cells #[.slice (some ⟨g,0,none⟩) 8 cap] 185)).cell? ⟨g,j,none⟩=some (.int .u64 (((su lo hi)[j]?.getD default).1:Int)):=fun j hj=>(((Ext.rfl' W2).alloc' _).cell (p:=⟨g,j,none⟩) hgl).trans (hcells j hj);generalize hW3:W2.alloc (.cells #[.slice (some ⟨g,0,none⟩) 8 cap] 185)=W3 at *;have g5' : Blk W3 (w.heap.size+1+1) 24 (zb m):=by subst hW3;exact g5.alloc _
 have g6' : Blk W3 (w.heap.size+1+1+1) 24 (aeC (qm m [])):=by subst hW3;exact g6.alloc _
 have hb' : Ext w W3:=by subst hW3;exact hb.alloc' _
 have hs3:W3.heap.size=W2.heap.size+1:=by subst hW3;simp
 have h6l:=g6.lt;have hg6:w.heap.size+1+1+1<g:=by simp at hgB;omega
 clear hW3 g5 g6 hb hcells;refine (wpIn_wide (n:=3)).1 ?_
 refine wpIn_rangeFunc_ownF (F:=Fence.wide) rfl Om (gf:=230) (lb:=#[.pointer (some ⟨W2.heap.size,0,none⟩)]) rfl trivial (enters_of Tryz.func230 (by kernel_rfl) rfl)
  (qA (3 - 1) Om W2.heap.size g cap (su lo hi) (by simp[su]) W3 Om Om hbx hcx) ux.trans (ux.put Om Om) (Below.refl _ _) (fun _=>rfl)
  (fun pre W=>((Blk W (w.heap.size+1+1) 24 (zb m)∧Blk W (w.heap.size+1+1+1) 24 (aeC (qm m pre)))∧W3.heap.size≤W.heap.size)∧Below w.heap.size w W)
  (fun _ _ _=>False)
  (OwnFrom.and (Own.from (fun s A B row hs hg hr=>⟨⟨hs.1.1.own hg hr,hs.1.2.own hg hr⟩,Nat.le_trans hs.2 hg.size⟩) _) (ownFrom_below (Nat.le_refl _) Om))
  (fun _ _ _ _ _ hs _ _=>hs)
  ⟨⟨⟨g5',g6'⟩,Nat.le_refl _⟩,hb'⟩
  ?a1 ?assign ?body ?done ?stop
 case assign =>
  intro l x W K hK
  gi_wp2
  exact hK
 case body =>
  rintro l pre x W ⟨⟨⟨g5,g6⟩,hW3⟩,hB⟩ _;have hD:=sf (qm m pre) x.2.1 m x.2.2 hs (ki m h0 pre);rw[← qX] at hD;have hle:=x.2.2;have hlf:=ki m h0 pre;generalize hsn:qm m (pre++[x])=r' at *;generalize qm m pre=r at *;have hm0:wd 0 m=m:=Nat.mod_eq_of_lt hs;have c5:=g5.cell_at (i:=0) rfl;rw[hm0] at c5;have c6:=g6.cell_at (i:=0) rfl;have f6:=g6.frozen 0;have HS:=Lib.hid hsn;clear hm0 hsn;have l5:=g5.lt;have l6:=g6.lt
  gi_wp2_with (refine⟨trivial,?_⟩;gi_at_call 154;refine (CallsIn.inRound l (callsIn_wide.2 (hD _))).mono ?_;rintro e w2 ⟨rfl,hb2⟩;have c6':=(g6.below hb2 l6).cell_at (i:=0) rfl;have f6':=(g6.below hb2 l6).frozen 0)
  have hsz:=hB.size;refine⟨(mu hb2).trans (KeepsOthers.setCell _ _ _),⟨?_,?_⟩,⟨⟨?_,?_⟩,?_⟩,?_⟩
  ·exact (Below.heap_setCell _ _ _ _ (by show g≠w.heap.size+1+1+1;omega)).trans (hb2.block _ Om)
  ·exact (Below.heap_setCell _ _ _ _ (by show W2.heap.size≠w.heap.size+1+1+1;omega)).trans (hb2.block _ Om)
  ·have:=g5.below hb2 l5
   ((repeat' (with_reducible first|exact this|refine Blk.drew ?_|refine Blk.drewN ?_ _|refine Blk.far ?_ ?_ _|refine Blk.alloc ?_ _))<;>(first|omega|(simp;done)|(simp;omega)))
  ·rw[HS.out];exact (g6.below hb2 l6).set_ 0 _
  ·have:=hb2.size;simp;omega
  ·exact (hB.trans (hb2.mono hB.size)).setCell (by show _≤w.heap.size+1+1+1;omega) _
 case done =>
  rintro D ys W hD rfl ⟨⟨⟨g5,g6⟩,hW3⟩,hB⟩ hK;rw[show (su lo hi).length=8 from rfl,eI lo hi m hlo hhi] at g6;rw[jr (Nat.lt_trans (Nat.mod_lt _ h0) hs)] at g6;generalize hR:(hi*zd+lo)%m=R at *;have g6_0:=g6.cell_at (i:=0) rfl;have g6_1:=g6.cell_at (i:=1) rfl;have g6_2:=g6.cell_at (i:=2) rfl;have g6_3:=g6.cell_at (i:=3) rfl;have g6_f:=g6.frozen;have g6_l:=g6.lt;have g6_m:=Nat.lt_succ_of_lt g6_l;have g6_n:=Nat.lt_succ_of_lt g6_m;have HR:=Lib.hid hR;clear hR
  gi_wp2
  go_wp2;generalize hW4:(((W.setCell _ _).setCell _ _).setCell _ _).setCell _ _=W4;have k6:Blk W4 (w.heap.size+1+1+1) 24 (zb R):=by subst hW4;exact g6.put4 _ _ _ _
  have hD6:D≠w.heap.size+1+1+1:=by omega
  have hK4:W4.heap[D]?=some (.deferred (some [])):=by
   subst hW4;rw[Below.heap_setCell _ _ _ _ hD6,Below.heap_setCell _ _ _ _ hD6,Below.heap_setCell _ _ _ _ hD6,Below.heap_setCell _ _ _ _ hD6];exact hK
  have hB4:Below w.heap.size w W4:=by
   have hsz:=hB.size;subst hW4
   ((repeat' (with_reducible first|exact hB|refine Below.drew ?_|refine Below.drewN' ?_ _|refine Below.setCell ?_ ?_ _|refine Below.alloc ?_ ?_ _))<;>(first|omega|(simp;done)|(simp;omega)))
  clear hW4;refine⟨by simp,.inl ⟨_,_,rfl,run_takeDeferred hK4,?_⟩⟩;have k7:=k6.far' (o:=.deferred none) hD6;have k7_0:=k7.cell_at (i:=0) rfl;have k7_1:=k7.cell_at (i:=1) rfl;have k7_2:=k7.cell_at (i:=2) rfl;have k7_3:=k7.cell_at (i:=3) rfl;have k7_f:=k7.frozen;have k7_l:=k7.lt;have k7_m:=Nat.lt_succ_of_lt k7_l;have k7_n:=Nat.lt_succ_of_lt k7_m;refine⟨.tuple #[zj R,.int .i64 0],?_,by rw[HR.out],hB4.trans (belowK_b (w:=w) (Nat.le_refl _) W4 D _ _ Om hK4 rfl rfl)⟩;simp[results,Tryz.results156,go_sem,k7_0,k7_1,k7_2,k7_3]
 case stop =>
  rintro D c pre W _ _ h _;exact h.elim
theorem sE (lo hi m:Nat) (hlo:lo<zd) (hhi:hi<zd) (hm:m<zd) (h0:0<m) (w:World) :
  Calls Tryz.prog 156 #[zj lo,zj hi,zj m] w fun e w'=>e=.returned (.tuple #[zj ((hi*zd+lo)%m),.int .i64 0])∧Below w.heap.size w w':=by
 by_cases hs:m<18446744073709551616
 ·exact tu lo hi m hlo hhi h0 hs w
 ·exact sn lo hi m hlo hhi hm h0 hs w
end
section
open Go.RowKit
attribute [local go_sem] zY yx
theorem o8 (a b m:Nat) (ha:a<m) (hb:b<m) (hm:m<18446744073709551616) (w:World) :
  Calls Tryz.prog 109 #[.int .u64 (a:Int),.int .u64 (b:Int),.int .u64 (m:Int)] w fun e w'=>e=.returned (.int .u64 ((a*b%m:Nat):Int))∧Below w.heap.size w w':=by
 have hM:=Tryz.bits_Mul64 a b Om Om;have hlt:a*b / 18446744073709551616<m:=by
  rw[Nat.div_lt_iff_lt_mul Om];have h1:a*b≤a*m:=Nat.mul_le_mul_left _ Om;have h2:a*m≤18446744073709551615*m:=Nat.mul_le_mul_right _ Om;omega
 have hD:=sf (a*b / 18446744073709551616) (a*b%18446744073709551616) m (Nat.mod_lt _ Om) hm hlt;rw[show a*b / 18446744073709551616*18446744073709551616+a*b%18446744073709551616=a*b by rw[Nat.mul_comm (a*b / 18446744073709551616)];exact Nat.div_add_mod _ _] at hD;generalize a*b%18446744073709551616=L at *;generalize a*b / 18446744073709551616=H at *;generalize a*b / m=q at *;generalize a*b%m=r at *;have HM:=Lib.hid hM;have HD:=Lib.hid hD;clear hM hD
 go_enter Tryz.func109,Tryz.ntmps109
 go_wp2_with (first|(go_at_call 153;refine (HM.out _).mono ?_;rintro e w1 ⟨rfl,rfl⟩)|(go_at_call 154;refine (HD.out _).mono ?_;rintro e w1 ⟨rfl,hb1⟩))
 go_ret
 exact⟨by simp,hb1⟩
theorem iE (a b m:Nat) (ha:a<m) (hb:b<m) (hm:m<zd) (w:World) :
  Calls Tryz.prog 112 #[zj a,zj b,zj m] w fun e w'=>e=.returned (zj (a*b%m))∧Below w.heap.size w w':=by
 have haB:a<zd:=by omega
 have hbB:b<zd:=by omega
 have hBi:=fun w=>uT m hm w;have hbw:Ext w w:=Ext.rfl' w
 by_cases hs:m<18446744073709551616
 ·have hle:zC m≤64:=yU (by simpa using hs);have hdec:decide (((zC m:Nat):Int)≤64)=true:=by simp;omega
  have e1:wd 0 a=a:=Nat.mod_eq_of_lt Om;have e2:wd 0 b=b:=Nat.mod_eq_of_lt Om;have e3:wd 0 m=m:=Nat.mod_eq_of_lt Om;have hW:∀ w,Calls Tryz.prog 109 #[.int .u64 ((wd 0 a:Nat):Int),.int .u64 ((wd 0 b:Nat):Int),.int .u64 ((wd 0 m:Nat):Int)] w fun e w'=>e=.returned (.int .u64 ((a*b%m:Nat):Int))∧Below w.heap.size w w':=by
   rw[e1,e2,e3];exact fun w=>o8 a b m ha hb hs w
  clear e1 e2 e3;have hO:=fun w=>jt (a*b%m) (Nat.lt_trans (Nat.mod_lt _ Om) hs) w;generalize zC m=N at *;generalize a*b%m=r at *
  go_enter Tryz.func112,Tryz.ntmps112
  go_wp2_with (first|(go_at_call 106;refine (hBi _).mono ?_;rintro e w1 ⟨rfl,hb1⟩;have g3:Blk w1 (w.heap.size) 24 (zb a):=Blk.below ((((Blk.new' (by first|rfl|(simp;done))).alloc _).alloc _).alloc _) hb1 (by first|(simp;done)|(simp;omega));have g4:Blk w1 (w.heap.size+1) 24 (zb b):=Blk.below (((Blk.new' (by first|rfl|(simp;done))).alloc _).alloc _) hb1 (by first|(simp;done)|(simp;omega));have g5:Blk w1 (w.heap.size+1+1) 24 (zb m):=Blk.below ((Blk.new' (by first|rfl|(simp;done))).alloc _) hb1 (by first|(simp;done)|(simp;omega));have g6:Blk w1 (w.heap.size+1+1+1) 24 (td):=Blk.below (Blk.new' (by first|rfl|(simp;done))) hb1 (by first|(simp;done)|(simp;omega));replace hbw:=Ext.trans' (((((hbw).alloc' _).alloc' _).alloc' _).alloc' _) hb1;clear hb1 ;have g3_0:=g3.cell_at (i:=0) rfl;have g3_1:=g3.cell_at (i:=1) rfl;have g3_2:=g3.cell_at (i:=2) rfl;have g3_3:=g3.cell_at (i:=3) rfl;have g3_f:=g3.frozen;have g3_l:=g3.lt;have g3_m:=Nat.lt_succ_of_lt g3_l;have g3_n:=Nat.lt_succ_of_lt g3_m;have g4_0:=g4.cell_at (i:=0) rfl;have g4_1:=g4.cell_at (i:=1) rfl;have g4_2:=g4.cell_at (i:=2) rfl;have g4_3:=g4.cell_at (i:=3) rfl;have g4_f:=g4.frozen;have g4_l:=g4.lt;have g4_m:=Nat.lt_succ_of_lt g4_l;have g4_n:=Nat.lt_succ_of_lt g4_m;have g5_0:=g5.cell_at (i:=0) rfl;have g5_1:=g5.cell_at (i:=1) rfl;have g5_2:=g5.cell_at (i:=2) rfl;have g5_3:=g5.cell_at (i:=3) rfl;have g5_f:=g5.frozen;have g5_l:=g5.lt;have g5_m:=Nat.lt_succ_of_lt g5_l;have g5_n:=Nat.lt_succ_of_lt g5_m;have g6_0:=g6.cell_at (i:=0) rfl;have g6_1:=g6.cell_at (i:=1) rfl;have g6_2:=g6.cell_at (i:=2) rfl;have g6_3:=g6.cell_at (i:=3) rfl;have g6_f:=g6.frozen;have g6_l:=g6.lt;have g6_m:=Nat.lt_succ_of_lt g6_l;have g6_n:=Nat.lt_succ_of_lt g6_m)|(go_at_call 109;refine (hW _).mono ?_;rintro e w2 ⟨rfl,hb1⟩;replace g3:=Blk.below (g3) hb1 (by have:=g3.lt;first|exact this|(simp;omega));replace g4:=Blk.below (g4) hb1 (by have:=g4.lt;first|exact this|(simp;omega));replace g5:=Blk.below (g5) hb1 (by have:=g5.lt;first|exact this|(simp;omega));replace g6:=Blk.below (g6) hb1 (by have:=g6.lt;first|exact this|(simp;omega));replace hbw:=Ext.trans' (hbw) hb1;clear hb1 g3_0 g3_1 g3_2 g3_3 g3_f g3_l g3_m g3_n g4_0 g4_1 g4_2 g4_3 g4_f g4_l g4_m g4_n g5_0 g5_1 g5_2 g5_3 g5_f g5_l g5_m g5_n g6_0 g6_1 g6_2 g6_3 g6_f g6_l g6_m g6_n;have g6_0:=g6.cell_at (i:=0) rfl;have g6_1:=g6.cell_at (i:=1) rfl;have g6_2:=g6.cell_at (i:=2) rfl;have g6_3:=g6.cell_at (i:=3) rfl;have g6_f:=g6.frozen;have g6_l:=g6.lt;have g6_m:=Nat.lt_succ_of_lt g6_l;have g6_n:=Nat.lt_succ_of_lt g6_m)|(go_at_call 52;refine (hO _).mono ?_;rintro e w3 ⟨rfl,hb1⟩;replace g6:=Blk.below (g6) hb1 (by have:=g6.lt;first|exact this|(simp;omega));replace hbw:=Ext.trans' (hbw) hb1;clear hb1 g6_0 g6_1 g6_2 g6_3 g6_f g6_l g6_m g6_n;have g6_0:=g6.cell_at (i:=0) rfl;have g6_1:=g6.cell_at (i:=1) rfl;have g6_2:=g6.cell_at (i:=2) rfl;have g6_3:=g6.cell_at (i:=3) rfl;have g6_f:=g6.frozen;have g6_l:=g6.lt;have g6_m:=Nat.lt_succ_of_lt g6_l;have g6_n:=Nat.lt_succ_of_lt g6_m))
  have hsz:=hbw.size;refine bodyPost_ret (v:=zj r) ?_ rfl ⟨rfl,?_⟩
  ·simp[results,Tryz.results112,go_sem,g6_0,g6_1,g6_2,g6_3,g6_l]
  ·((repeat' (with_reducible first|exact hbw|refine Below.drew ?_|refine Below.drewN' ?_ _|refine Below.setCell ?_ ?_ _|refine Below.alloc ?_ ?_ _))<;>(first|omega|(simp;done)|(simp;omega)))
 ·have hle:¬ zC m≤64:=by rw[yH];simpa using hs
  have hdec:decide (((zC m:Nat):Int)≤64)=false:=by simp;omega
  have hM:=fun w=>fE a b haB hbB w;have hW:=fun w=>sE (a*b%zd) (a*b / zd) m (Nat.mod_lt _ zy) (by
   rw[Nat.div_lt_iff_lt_mul zy];exact Nat.mul_lt_mul'' haB hbB) hm Om w
  rw[show a*b / zd*zd+a*b%zd=a*b by rw[Nat.mul_comm (a*b / zd)];exact Nat.div_add_mod _ _] at hW;generalize zC m=N at *;generalize a*b%m=r at *;generalize a*b%zd=lo at *;generalize a*b / zd=hi at *
  go_enter Tryz.func112,Tryz.ntmps112
  go_wp2_with (first|(go_at_call 106;refine (hBi _).mono ?_;rintro e w1 ⟨rfl,hb1⟩;have g3:Blk w1 (w.heap.size) 24 (zb a):=Blk.below ((((Blk.new' (by first|rfl|(simp;done))).alloc _).alloc _).alloc _) hb1 (by first|(simp;done)|(simp;omega));have g4:Blk w1 (w.heap.size+1) 24 (zb b):=Blk.below (((Blk.new' (by first|rfl|(simp;done))).alloc _).alloc _) hb1 (by first|(simp;done)|(simp;omega));have g5:Blk w1 (w.heap.size+1+1) 24 (zb m):=Blk.below ((Blk.new' (by first|rfl|(simp;done))).alloc _) hb1 (by first|(simp;done)|(simp;omega));have g6:Blk w1 (w.heap.size+1+1+1) 24 (td):=Blk.below (Blk.new' (by first|rfl|(simp;done))) hb1 (by first|(simp;done)|(simp;omega));replace hbw:=Ext.trans' (((((hbw).alloc' _).alloc' _).alloc' _).alloc' _) hb1;clear hb1 ;have g3_0:=g3.cell_at (i:=0) rfl;have g3_1:=g3.cell_at (i:=1) rfl;have g3_2:=g3.cell_at (i:=2) rfl;have g3_3:=g3.cell_at (i:=3) rfl;have g3_f:=g3.frozen;have g3_l:=g3.lt;have g3_m:=Nat.lt_succ_of_lt g3_l;have g3_n:=Nat.lt_succ_of_lt g3_m;have g4_0:=g4.cell_at (i:=0) rfl;have g4_1:=g4.cell_at (i:=1) rfl;have g4_2:=g4.cell_at (i:=2) rfl;have g4_3:=g4.cell_at (i:=3) rfl;have g4_f:=g4.frozen;have g4_l:=g4.lt;have g4_m:=Nat.lt_succ_of_lt g4_l;have g4_n:=Nat.lt_succ_of_lt g4_m)|(go_at_call 155;refine (hM _).mono ?_;rintro e w2 ⟨rfl,hb1⟩;replace g3:=Blk.below (g3) hb1 (by have:=g3.lt;first|exact this|(simp;omega));replace g4:=Blk.below (g4) hb1 (by have:=g4.lt;first|exact this|(simp;omega));replace g5:=Blk.below (g5) hb1 (by have:=g5.lt;first|exact this|(simp;omega));replace g6:=Blk.below (g6) hb1 (by have:=g6.lt;first|exact this|(simp;omega));replace hbw:=Ext.trans' (hbw) hb1;clear hb1 g3_0 g3_1 g3_2 g3_3 g3_f g3_l g3_m g3_n g4_0 g4_1 g4_2 g4_3 g4_f g4_l g4_m g4_n;have g5_0:=g5.cell_at (i:=0) rfl;have g5_1:=g5.cell_at (i:=1) rfl;have g5_2:=g5.cell_at (i:=2) rfl;have g5_3:=g5.cell_at (i:=3) rfl;have g5_f:=g5.frozen;have g5_l:=g5.lt;have g5_m:=Nat.lt_succ_of_lt g5_l;have g5_n:=Nat.lt_succ_of_lt g5_m)|(go_at_call 156;refine (hW _).mono ?_;rintro e w3 ⟨rfl,hb1⟩;replace g5:=Blk.below (((g5).alloc _).alloc _) hb1 (by have:=g5.lt;first|exact this|(simp;omega));replace g6:=Blk.below (((g6).alloc _).alloc _) hb1 (by have:=g6.lt;first|exact this|(simp;omega));have g7:Blk w3 (w2.heap.size) 24 (zb lo):=Blk.below ((Blk.new' (by first|rfl|(simp;done))).alloc _) hb1 (by first|(simp;done)|(simp;omega));have g8:Blk w3 (w2.heap.size+1) 24 (zb hi):=Blk.below (Blk.new' (by first|rfl|(simp;done))) hb1 (by first|(simp;done)|(simp;omega));replace hbw:=Ext.trans' (((hbw).alloc' _).alloc' _) hb1;clear hb1 g5_0 g5_1 g5_2 g5_3 g5_f g5_l g5_m g5_n;have g6_0:=g6.cell_at (i:=0) rfl;have g6_1:=g6.cell_at (i:=1) rfl;have g6_2:=g6.cell_at (i:=2) rfl;have g6_3:=g6.cell_at (i:=3) rfl;have g6_f:=g6.frozen;have g6_l:=g6.lt;have g6_m:=Nat.lt_succ_of_lt g6_l;have g6_n:=Nat.lt_succ_of_lt g6_m))
  have hsz:=hbw.size;refine bodyPost_ret (v:=zj r) ?_ rfl ⟨rfl,?_⟩
  ·simp[results,Tryz.results112,go_sem,g6_0,g6_1,g6_2,g6_3,g6_l]
  ·((repeat' (with_reducible first|exact hbw|refine Below.drew ?_|refine Below.drewN' ?_ _|refine Below.setCell ?_ ?_ _|refine Below.alloc ?_ ?_ _))<;>(first|omega|(simp;done)|(simp;omega)))
end
end Go.Proofs.YtiiefkchpicncaaGreatDoor
