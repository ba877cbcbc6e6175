/- Part 10 of the proof. -/
import Derived.Test.YteibfbjpkjkejaaGreatDoorM01
import Derived.Test.YteibfbjpkjkejaaGreatDoorM03
import Derived.Test.YteibfbjpkjkejaaGreatDoorProg
import Derived.StillTailTactics
import Derived.BigQuiet
import Derived.Deep.QuietTactic
import Derived.Deep.RegionHeld3
import Derived.Deep.LoopGhost
import Derived.Shelf.Spec.BitsCarry
import Derived.Handy
import Derived.DeepKeys
set_option linter.unusedSimpArgs false
set_option linter.unusedVariables false
namespace Go.Proofs.YteibfbjpkjkejaaGreatDoor
section
open Go.RowKit
theorem nu (x y c:Nat) (hc:c≤1) (w:World) :
  (callFunc 168 #[.int .u64 x,.int .u64 y,.int .u64 c]).run Tryz.prog w =
   .ok (.value (.tuple #[.int .u64 (((x+y+c)%18446744073709551616:Nat):Int),.int .u64 (((x+y+c) / 18446744073709551616:Nat):Int)])) w:=by
 rw[run_callFunc_extern (Tryz.func168) (by kernel_rfl) (by kernel_rfl) (by kernel_rfl) (e:=add64Entry) (by kernel_rfl),run_add64 x y c (by omega) (by omega) (by omega) (by omega)];simp only[Result.andThen];congr 5<;>omega
def cy (a b:Nat):Nat→Nat
 | 0=>0
 | k+1=>(wd k a+wd k b+cy a b k) / 18446744073709551616
def sw (a b k:Nat):Nat:=(wd k a+wd k b+cy a b k)%18446744073709551616
theorem aep (a b k:Nat):cy a b k≤1:=by
 induction k with
 | zero=>exact Nat.zero_le _
 | succ k ih=>have:=yf k a;have:=yf k b;simp only[cy];omega
def u64 (n:Nat):Value:=.int .u64 ((n:Nat):Int)
def vR (a b k:Nat):List Value:=[if 0<k then .int .u64 (sw a b 0:Nat) else .int .u64 0,if 1<k then .int .u64 (sw a b 1:Nat) else .int .u64 0,if 2<k then .int .u64 (sw a b 2:Nat) else .int .u64 0,if 3<k then .int .u64 (sw a b 3:Nat) else .int .u64 0]
theorem y8 (a:Nat) {k:Nat} (h:k<4):(zb a)[k]?=some (.int .u64 (wd k a:Nat)):=by
 have:k=0∨k=1∨k=2∨k=3:=by omega
 rcases this with rfl|rfl|rfl|rfl<;>rfl
theorem kK (a b:Nat) {k:Nat} (h:k<4):(vR a b k)[k]?=some (.int .u64 0):=by
 have:k=0∨k=1∨k=2∨k=3:=by omega
 rcases this with rfl|rfl|rfl|rfl<;>rfl
theorem dX (a b:Nat) {k:Nat} (h:k<4):(vR a b k).set k (.int .u64 (sw a b k:Nat))=vR a b (k+1):=by
 have:k=0∨k=1∨k=2∨k=3:=by omega
 rcases this with rfl|rfl|rfl|rfl<;>rfl
set_option maxRecDepth 100000 in
theorem nm (a b:Nat) (ha:a<zd) (hbb:b<zd) (w:World) :
  Calls Tryz.prog 157 #[zi a,zi b] w fun e w'=>e=.returned (.tuple #[zi ((a+b)%zd),.int .u64 (((a+b) / zd:Nat):Int)])∧Below w.heap.size w w':=by
 have hA:=nu
 go_enter Tryz.func157,Tryz.ntmps157
 go_wp2;generalize hW:((w.alloc _).alloc _).alloc _=W;have hg0:Blk W w.heap.size 24 (zb a):=by subst hW;exact ((Blk.new _ _ _).alloc _).alloc _
 have hg1:Blk W (w.heap.size+1) 24 (zb b):=by subst hW;exact (Blk.new' (by simp)).alloc _
 have hg2:Blk W (w.heap.size+1+1) 24 (vR a b 0):=by subst hW;exact Blk.new' (by simp)
 have hb:Below w.heap.size w W:=by subst hW;exact (((Below.refl _ _).alloc (Nat.le_refl _) _).alloc (by simp) _).alloc (by simp;omega) _
 clear hW
 go_loopw [5,7] (fun c i wr=>∃ k:Nat,k≤4∧i=.int .i64 k∧c=.int .u64 (cy a b k:Nat)∧Blk wr w.heap.size 24 (zb a)∧Blk wr (w.heap.size+1) 24 (zb b)∧Blk wr (w.heap.size+1+1) 24 (vR a b k)∧Below w.heap.size w wr) (fun _ i _=>4 - (intOf i).toNat)
 case atStart=>exact⟨0,by omega,rfl,rfl,hg0,hg1,hg2,hb⟩
 case round =>
  clear hg0 hg1 hg2 hb;obtain⟨k,hk,rfl,rfl,hg0,hg1,hg2,hb⟩:=hrel;have hc:=aep a b k
  by_cases hlt:k<4
  ·have c0:=hg0.cell_at (y8 a hlt);have c1:=hg1.cell_at (y8 b hlt);have c2:=hg2.cell_at (kK a b hlt);have f2:=hg2.frozen k;go_wp2;have lt0:=hg0.lt;have lt1:=hg1.lt;have lt2:=hg2.lt;refine Kp.wp_region_kpf [11] 13 (by kernel_rfl) (by kernel_rfl) (fun L Fin hL hFin=>?_);have HL:=Lib.hid hL;clear hL;have HF:=Lib.hid hFin;clear hFin;simp only[List.take_succ_cons,List.take_zero,List.drop_succ_cons,List.drop_zero];apply Exists.intro
   repeat ((first|(apply Kp.kp_free;(first|rfl|(rw[HL.out];rfl));(intro w1;go_simp;rfl))|(apply Kp.kp_now;rfl;(first|rfl|(rw[HL.out];rfl));(intro w1 hb1;obtain⟨hcw,hfw⟩:=uy hb1;clear hb1;go_simp;rfl)));simp only[Act.put,List.setIfInBounds_toArray,List.set_cons_succ,List.set_cons_zero])
   apply Kp.kp_nil;refine HF.out _ _ (fun w1 hb1 _=>?_);clear HL HF;simp only[List.drop_succ_cons,List.drop_zero];have c3:=(hg2.below hb1 lt2).cell_at (kK a b hlt);have f3:=(hg2.below hb1 lt2).frozen k;go_wp2;refine NoPanic.normal ?_;go_wp2
   go_roundw
   case rel =>
    refine⟨k+1,by omega,by go_num,?_,(hg0.below hb1 lt0).far (by simp;omega) _,(hg1.below hb1 lt1).far (by simp) _,?_,(hb.trans (hb1.mono hb.size)).setCell (by simp;omega) _⟩
    ·simp[cy]
    ·rw[← dX a b hlt];exact (hg2.below hb1 lt2).set_ k _
   case measure=>simp[intOf];omega
  ·obtain rfl:k=4:=by omega
   have d0:wr.cell? ⟨w.heap.size+1+1,0,none⟩=some (.int .u64 ((sw a b 0:Nat):Int)):=hg2.cell_at rfl;have d1:wr.cell? ⟨w.heap.size+1+1,1,none⟩=some (.int .u64 ((sw a b 1:Nat):Int)):=hg2.cell_at rfl;have d2:wr.cell? ⟨w.heap.size+1+1,2,none⟩=some (.int .u64 ((sw a b 2:Nat):Int)):=hg2.cell_at rfl;have d3:wr.cell? ⟨w.heap.size+1+1,3,none⟩=some (.int .u64 ((sw a b 3:Nat):Int)):=hg2.cell_at rfl;have ff:=hg2.frozen;clear hA;go_wp2;have hs:=iP a b ha hbb (sw a b 0) (sw a b 1) (sw a b 2) (sw a b 3) (cy a b 1) (cy a b 2) (cy a b 3) (cy a b 4) (by simp[sw,cy]) (by simp[cy]) rfl rfl rfl rfl rfl rfl;have hlt:=fun i=>Nat.mod_lt (wd i a+wd i b+cy a b i) (show 0<18446744073709551616 by omega);have hv:=si (hlt 0) (hlt 1) (hlt 2) (hlt 3);have ev:Value.agg #[.int .u64 ((sw a b 0:Nat):Int),.int .u64 ((sw a b 1:Nat):Int),.int .u64 ((sw a b 2:Nat):Int),.int .u64 ((sw a b 3:Nat):Int)]=zi ((a+b)%zd):=by rw[← hs.1];exact hv
   refine bodyPost_ret (v:=.tuple #[zi ((a+b)%zd),.int .u64 (((a+b) / zd:Nat):Int)]) ?_ rfl ⟨rfl,?_⟩
   ·rw[← ev,← hs.2];simp[results,Tryz.results157,go_sem,d0,d1,d2,d3]
   ·refine ((((hb.setCell ?_ _).setCell ?_ _).setCell ?_ _).setCell ?_ _)<;>(simp;omega)
def bw (x y c:Nat):Nat:=if x<y+c then 1 else 0
theorem fj (x y b:Nat) (hb:b≤1) (w:World) :
  (callFunc 86 #[.int .u64 x,.int .u64 y,.int .u64 b]).run Tryz.prog w =
   .ok (.value (.tuple #[.int .u64 (((x+18446744073709551616 - y - b)%18446744073709551616:Nat):Int),.int .u64 ((bw x y b:Nat):Int)])) w:=by
 rw[run_callFunc_extern (Tryz.func86) (by kernel_rfl) (by kernel_rfl) (by kernel_rfl) (e:=sub64Entry) (by kernel_rfl),run_sub64 x y b hb];rfl
def br (a b:Nat):Nat→Nat
 | 0=>0
 | k+1=>bw (wd k a) (wd k b) (br a b k)
def sb (a b k:Nat):Nat:=(wd k a+18446744073709551616 - wd k b - br a b k)%18446744073709551616
theorem ad4 (a b k:Nat):br a b k≤1:=by
 cases k with
 | zero=>exact Nat.zero_le _
 | succ k=>simp only[br,bw];split<;>omega
theorem sX (x y c:Nat) (hx:x<18446744073709551616) (hy:y<18446744073709551616) (hc:c≤1) :
  (x+18446744073709551616 - y - c)%18446744073709551616+y+c=x+18446744073709551616*(if x<y+c then 1 else 0)∧(x+18446744073709551616 - y - c)%18446744073709551616<18446744073709551616∧(if x<y+c then 1 else 0:Nat)≤1:=by
 split<;>omega
theorem abC (S A B M c:Nat) (hS:S<M) (hA:A<M) (hB:B<M) (hc:c≤1) (h:S+B=A+M*c):S=(A+M - B)%M∧c=if A<B then 1 else 0:=by
 have:c=0∨c=1:=by omega
 rcases this with rfl|rfl
 ·rw[show A+M - B=S+M by omega,Nat.add_mod_right,Nat.mod_eq_of_lt hS,if_neg (by omega)];exact⟨rfl,rfl⟩
 ·rw[show A+M - B=S by omega,Nat.mod_eq_of_lt hS,if_pos (by omega)];exact⟨rfl,rfl⟩
theorem iQ (a b:Nat) (ha:a<zd) (hb:b<zd) (s0 s1 s2 s3 c1 c2 c3 c4:Nat)
  (e0:s0=(wd 0 a+18446744073709551616 - wd 0 b - 0)%18446744073709551616) (f0:c1=if wd 0 a<wd 0 b+0 then 1 else 0)
  (e1:s1=(wd 1 a+18446744073709551616 - wd 1 b - c1)%18446744073709551616) (f1:c2=if wd 1 a<wd 1 b+c1 then 1 else 0)
  (e2:s2=(wd 2 a+18446744073709551616 - wd 2 b - c2)%18446744073709551616) (f2:c3=if wd 2 a<wd 2 b+c2 then 1 else 0)
  (e3:s3=(wd 3 a+18446744073709551616 - wd 3 b - c3)%18446744073709551616) (f3:c4=if wd 3 a<wd 3 b+c3 then 1 else 0) :
  u5 s0 s1 s2 s3=(a+zd - b)%zd∧c4=bw a b 0:=by
 have h1:=vN ha;have h2:=vN hb;have:=yf 0 a;have:=yf 1 a;have:=yf 2 a;have:=yf 3 a;have:=yf 0 b;have:=yf 1 b;have:=yf 2 b;have:=yf 3 b;generalize wd 0 a=a0 at *;generalize wd 1 a=a1 at *;generalize wd 2 a=a2 at *;generalize wd 3 a=a3 at *;generalize wd 0 b=b0 at *;generalize wd 1 b=b1 at *;generalize wd 2 b=b2 at *;generalize wd 3 b=b3 at *;obtain⟨g0,l0,m0⟩:=sX a0 b0 0 (by omega) (by omega) (by omega);rw[← e0,← f0] at g0;rw[← e0] at l0;rw[← f0] at m0;obtain⟨g1,l1,m1⟩:=sX a1 b1 c1 (by omega) (by omega) (by omega);rw[← e1,← f1] at g1;rw[← e1] at l1;rw[← f1] at m1;obtain⟨g2,l2,m2⟩:=sX a2 b2 c2 (by omega) (by omega) (by omega);rw[← e2,← f2] at g2;rw[← e2] at l2;rw[← f2] at m2;obtain⟨g3,l3,m3⟩:=sX a3 b3 c3 (by omega) (by omega) (by omega);rw[← e3,← f3] at g3;rw[← e3] at l3;rw[← f3] at m3;have key:u5 s0 s1 s2 s3+b=a+zd*c4:=by
  rw[← h1,← h2];clear e0 e1 e2 e3 f0 f1 f2 f3 h1 h2 ha hb l0 l1 l2 l3 m0 m1 m2 m3;simp only[u5,zd];omega
 have hs:=lz l0 l1 l2 l3;clear e0 e1 e2 e3 f0 f1 f2 f3 h1 h2 g0 g1 g2 g3 l0 l1 l2 l3 m0 m1 m2;simp only[bw,Nat.add_zero];exact abC _ _ _ _ _ hs ha hb m3 key
def adn (a b k:Nat):List Value:=[if 0<k then .int .u64 (sb a b 0:Nat) else .int .u64 0,if 1<k then .int .u64 (sb a b 1:Nat) else .int .u64 0,if 2<k then .int .u64 (sb a b 2:Nat) else .int .u64 0,if 3<k then .int .u64 (sb a b 3:Nat) else .int .u64 0]
theorem kL (a b:Nat) {k:Nat} (h:k<4):(adn a b k)[k]?=some (.int .u64 0):=by
 have:k=0∨k=1∨k=2∨k=3:=by omega
 rcases this with rfl|rfl|rfl|rfl<;>rfl
theorem au (a b:Nat) {k:Nat} (h:k<4):(adn a b k).set k (.int .u64 (sb a b k:Nat))=adn a b (k+1):=by
 have:k=0∨k=1∨k=2∨k=3:=by omega
 rcases this with rfl|rfl|rfl|rfl<;>rfl
set_option maxRecDepth 100000 in
theorem tq (a b:Nat) (ha:a<zd) (hbb:b<zd) (w:World) :
  Calls Tryz.prog 39 #[zi a,zi b] w fun e w'=>e=.returned (.tuple #[zi ((a+zd - b)%zd),.int .u64 ((bw a b 0:Nat):Int)])∧Below w.heap.size w w':=by
 have hA:=fj
 go_enter Tryz.func39,Tryz.ntmps39
 go_wp2;generalize hW:((w.alloc _).alloc _).alloc _=W;have hg0:Blk W w.heap.size 24 (zb a):=by subst hW;exact ((Blk.new _ _ _).alloc _).alloc _
 have hg1:Blk W (w.heap.size+1) 24 (zb b):=by subst hW;exact (Blk.new' (by simp)).alloc _
 have hg2:Blk W (w.heap.size+1+1) 24 (adn a b 0):=by subst hW;exact Blk.new' (by simp)
 have hb:Below w.heap.size w W:=by subst hW;exact (((Below.refl _ _).alloc (Nat.le_refl _) _).alloc (by simp) _).alloc (by simp;omega) _
 clear hW
 go_loopw [5,7] (fun c i wr=>∃ k:Nat,k≤4∧i=.int .i64 k∧c=.int .u64 (br a b k:Nat)∧Blk wr w.heap.size 24 (zb a)∧Blk wr (w.heap.size+1) 24 (zb b)∧Blk wr (w.heap.size+1+1) 24 (adn a b k)∧Below w.heap.size w wr) (fun _ i _=>4 - (intOf i).toNat)
 case atStart=>exact⟨0,by omega,rfl,rfl,hg0,hg1,hg2,hb⟩
 case round =>
  clear hg0 hg1 hg2 hb;obtain⟨k,hk,rfl,rfl,hg0,hg1,hg2,hb⟩:=hrel;have hc:=ad4 a b k
  by_cases hlt:k<4
  ·have c0:=hg0.cell_at (y8 a hlt);have c1:=hg1.cell_at (y8 b hlt);have c2:=hg2.cell_at (kL a b hlt);have f2:=hg2.frozen k;go_wp2;have lt0:=hg0.lt;have lt1:=hg1.lt;have lt2:=hg2.lt;refine Kp.wp_region_kpf [11] 13 (by kernel_rfl) (by kernel_rfl) (fun L Fin hL hFin=>?_);have HL:=Lib.hid hL;clear hL;have HF:=Lib.hid hFin;clear hFin;simp only[List.take_succ_cons,List.take_zero,List.drop_succ_cons,List.drop_zero];apply Exists.intro
   repeat ((first|(apply Kp.kp_free;(first|rfl|(rw[HL.out];rfl));(intro w1;go_simp;rfl))|(apply Kp.kp_now;rfl;(first|rfl|(rw[HL.out];rfl));(intro w1 hb1;obtain⟨hcw,hfw⟩:=uy hb1;clear hb1;go_simp;rfl)));simp only[Act.put,List.setIfInBounds_toArray,List.set_cons_succ,List.set_cons_zero])
   apply Kp.kp_nil;refine HF.out _ _ (fun w1 hb1 _=>?_);clear HL HF;simp only[List.drop_succ_cons,List.drop_zero];have c3:=(hg2.below hb1 lt2).cell_at (kL a b hlt);have f3:=(hg2.below hb1 lt2).frozen k;go_wp2;refine NoPanic.normal ?_;go_wp2
   go_roundw
   case rel =>
    refine⟨k+1,by omega,by go_num,?_,(hg0.below hb1 lt0).far (by simp;omega) _,(hg1.below hb1 lt1).far (by simp) _,?_,(hb.trans (hb1.mono hb.size)).setCell (by simp;omega) _⟩
    ·simp[br]
    ·rw[← au a b hlt];exact (hg2.below hb1 lt2).set_ k _
   case measure=>simp[intOf];omega
  ·obtain rfl:k=4:=by omega
   have d0:wr.cell? ⟨w.heap.size+1+1,0,none⟩=some (.int .u64 ((sb a b 0:Nat):Int)):=hg2.cell_at rfl;have d1:wr.cell? ⟨w.heap.size+1+1,1,none⟩=some (.int .u64 ((sb a b 1:Nat):Int)):=hg2.cell_at rfl;have d2:wr.cell? ⟨w.heap.size+1+1,2,none⟩=some (.int .u64 ((sb a b 2:Nat):Int)):=hg2.cell_at rfl;have d3:wr.cell? ⟨w.heap.size+1+1,3,none⟩=some (.int .u64 ((sb a b 3:Nat):Int)):=hg2.cell_at rfl;have ff:=hg2.frozen;clear hA;go_wp2;have hs:=iQ a b ha hbb (sb a b 0) (sb a b 1) (sb a b 2) (sb a b 3) (br a b 1) (br a b 2) (br a b 3) (br a b 4) rfl rfl rfl rfl rfl rfl rfl rfl;have hlt:=fun i=>Nat.mod_lt (wd i a+18446744073709551616 - wd i b - br a b i) (show 0<18446744073709551616 by omega);have hv:=si (hlt 0) (hlt 1) (hlt 2) (hlt 3);have ev:Value.agg #[.int .u64 ((sb a b 0:Nat):Int),.int .u64 ((sb a b 1:Nat):Int),.int .u64 ((sb a b 2:Nat):Int),.int .u64 ((sb a b 3:Nat):Int)]=zi ((a+zd - b)%zd):=by rw[← hs.1];exact hv
   refine bodyPost_ret (v:=.tuple #[zi ((a+zd - b)%zd),.int .u64 ((bw a b 0:Nat):Int)]) ?_ rfl ⟨rfl,?_⟩
   ·rw[← ev,← hs.2];simp[results,Tryz.results39,go_sem,d0,d1,d2,d3]
   ·refine ((((hb.setCell ?_ _).setCell ?_ _).setCell ?_ _).setCell ?_ _)<;>(simp;omega)
end
section
open Go.RowKit
theorem aN (n:Nat) (h:n<18446744073709551616):n<zd:=by unfold zd;omega
theorem tW (n:Nat) (h:n<18446744073709551616):Value.agg #[.int .u64 (n:Int),.int .u64 0,.int .u64 0,.int .u64 0]=zi n:=by
 have:=si h (by omega:0<18446744073709551616) (by omega:0<18446744073709551616) (by omega:0<18446744073709551616);simpa [u5] using this
theorem kz (n:Nat) (h:n<18446744073709551616) (w:World) :
  Calls Tryz.prog 37 #[.int .u64 (n:Int)] w fun e w'=>e=.returned (zi n)∧Below w.heap.size w w':=by
 go_enter Tryz.func37,Tryz.ntmps37
 go_wp2;refine bodyPost_ret (v:=zi n) ?_ rfl ⟨rfl,?_⟩
 ·rw[← tW n h];simp[results,Tryz.results37,go_sem]
 ·exact (Below.refl _ _).alloc (Nat.le_refl _) _
def eqN (a b:Nat):Bool:=decide (a=b)
theorem dE (n:Nat) (h:n<18446744073709551616):Tryz.prog.keyLits 1 22 [.int .u64 (n:Int)]=some [.int .u64 (n:Int)]:=by
 have hw:(Lit.int .u64 (n:Int)).wf=true:=by
  simp[Lit.wf,IntKind.min,IntKind.max,IntKind.signed,IntKind.bits];omega
 simp[Program.keyLits,Tryz.underlying22,hw]
theorem ou (a:Nat):Tryz.prog.keyLits 2 24 (zb a)=some [.int .u64 ((wd 0 a:Nat):Int),.int .u64 ((wd 1 a:Nat):Int),.int .u64 ((wd 2 a:Nat):Int),.int .u64 ((wd 3 a:Nat):Int)]:=by
 have c1:Tryz.prog.cellsOf 24=4:=by kernel_rfl
 have c2:Tryz.prog.cellsOf 22=1:=by kernel_rfl
 have k:=fun i=>dE (wd i a) (yf i a);have r:List.range 4=[0,1,2,3]:=rfl;unfold Program.keyLits;simp[Tryz.underlying24,c1,c2,r,k]
theorem qB {a b:Nat} (ha:a<zd) (hb:b<zd) (w:World) :
  (binOp .eql 24 (zi a) (zi b)).run Tryz.prog w=.ok (.bool (eqN a b)) w:=by
 obtain⟨r,hr,hiff⟩:=run_equalIn_deep (P:=Tryz.prog) 9998 2 24 (by kernel_rfl) w 2 2 (zi a) (zi b)
  [.int .u64 ((wd 0 a:Nat):Int),.int .u64 ((wd 1 a:Nat):Int),.int .u64 ((wd 2 a:Nat):Int),.int .u64 ((wd 3 a:Nat):Int)]
  [.int .u64 ((wd 0 b:Nat):Int),.int .u64 ((wd 1 b:Nat):Int),.int .u64 ((wd 2 b:Nat):Int),.int .u64 ((wd 3 b:Nat):Int)]
  (by kernel_rfl) (by kernel_rfl) (ou a) (ou b)
 have e:r=eqN a b:=by
  unfold eqN;rw[Bool.eq_iff_iff,hiff];simp only[decide_eq_true_eq,List.cons.injEq,Lit.int.injEq,true_and,and_true,Int.ofNat_inj];constructor
  ·rintro ⟨h0,h1,h2,h3⟩;exact aE ha hb h0 h1 h2 h3
  ·rintro rfl;exact⟨rfl,rfl,rfl,rfl⟩
 subst e;simp only[run_eql_struct,hr,Result.andThen]
theorem yb {a b:Nat} (ha:a<zd) (hb:b<zd) (w:World) :
  (Op.equalIn 10000 24 (zi a) (zi b)).run Tryz.prog w=.ok (eqN a b) w:=by
 have:=qB ha hb w;rw[run_eql_struct] at this;cases h:(Op.equalIn 10000 24 (zi a) (zi b)).run Tryz.prog w with
 | ok r w'=>rw[h] at this;simp only[Result.andThen,Result.ok.injEq,Value.bool.injEq] at this;rw[this.1,this.2]
 | halt h' w'=>rw[h] at this;simp[Result.andThen] at this
attribute [local go_sem] yb
theorem iJ {a b:Nat} (h:a=b):eqN a b=true:=by simp[eqN,h]
theorem qD {a b:Nat} (h:a≠b):eqN a b=false:=by simp[eqN,h]
def uE (a b:Nat):Int:=if a=b then 0 else if a<b then -1 else 1
theorem ga (a b:Nat) (ha:a<zd) (hb:b<zd) (w:World) :
  Calls Tryz.prog 19 #[zi a,zi b] w fun e w'=>e=.returned (.int .i64 (uE a b))∧Below w.heap.size w w':=by
 by_cases hab:a=b
 ·have he:=iJ hab;have hc:uE a b=0:=by simp[uE,hab]
  clear hab
  go_enter Tryz.func19,Tryz.ntmps19
  go_wp2
  go_ret
  exact⟨by simp[hc],((Ext.rfl' w).alloc' _).alloc' _⟩
 ·have he:=qD hab
  by_cases hlt:a<b
  ·have hc:uE a b = -1:=by simp[uE,hab,hlt]
   have hbw:bw a b 0=1:=by simp[bw,hlt]
   clear hab
   go_enter Tryz.func19,Tryz.ntmps19
   go_wp2_with (go_at_call 39;refine (tq a b ha hb _).mono ?_;rintro e w1 ⟨rfl,hb1⟩)
   go_ret
   exact⟨by simp[hc],(((((Ext.rfl' w).alloc' _).alloc' _).trans' hb1).alloc' _)⟩
  ·have hc:uE a b=1:=by simp[uE,hab,hlt]
   have hbw:bw a b 0=0:=by simp[bw,hlt]
   clear hab
   go_enter Tryz.func19,Tryz.ntmps19
   go_wp2_with (go_at_call 39;refine (tq a b ha hb _).mono ?_;rintro e w1 ⟨rfl,hb1⟩)
   go_ret
   exact⟨by simp[hc],(((((Ext.rfl' w).alloc' _).alloc' _).trans' hb1).alloc' _)⟩
end
end Go.Proofs.YteibfbjpkjkejaaGreatDoor
