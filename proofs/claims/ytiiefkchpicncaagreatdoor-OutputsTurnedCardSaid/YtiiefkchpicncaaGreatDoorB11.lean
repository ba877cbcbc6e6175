/- Part 11 of the proof. -/
import Derived.Test.YtiiefkchpicncaaGreatDoorB04
import Derived.Test.YtiiefkchpicncaaGreatDoorB10
set_option linter.unusedSimpArgs false
set_option linter.unusedVariables false
set_option maxHeartbeats 8000000
namespace Go.Proofs.YtiiefkchpicncaaGreatDoor
section
open Go.RowKit Go.Shelf
attribute [local go_sem] yf yM
attribute [local go_sem] Oper.semAt_some
theorem ac4 (g j:Nat):Addr.add ⟨g,0,none⟩ j=⟨g,j,none⟩:=by unfold Addr.add;split<;>simp_all
theorem acM (a b K m:Nat):(a%m*K+b)%m=(a*K+b)%m:=by rw[Nat.add_mod,Nat.mul_mod,Nat.mod_mod,← Nat.mul_mod,← Nat.add_mod]
def fX (K m:Nat) (l:List (Nat × U64)):Nat:=l.foldl (fun r x=>(r*K+x.2.1)%m) 0
theorem eA (K m:Nat) (l:List (Nat × U64)) (x:Nat × U64):fX K m (l++[x])=(fX K m l*K+x.2.1)%m:=by
 unfold fX;rw[List.foldl_append];rfl
theorem js (K m:Nat) (x0 x1 x2 x3 x4 x5 x6 x7:Nat × U64):fX K m [x0,x1,x2,x3,x4,x5,x6,x7]=((((((((0*K+x0.2.1)*K+x1.2.1)*K+x2.2.1)*K+x3.2.1)*K+x4.2.1)*K+x5.2.1)*K+x6.2.1)*K+x7.2.1)%m:=by
 simp only[fX,List.foldl_cons,List.foldl_nil,acM]
def qN (m:Nat) (l:List (Nat × U64)):Nat:=fX 18446744073709551616 m l
theorem p9 (m:Nat) (l:List (Nat × U64)) (x:Nat × U64):qN m (l++[x])=(qN m l*18446744073709551616+x.2.1)%m:=eA _ m l x
theorem iU (m:Nat) (h0:0<m) (l:List (Nat × U64)):qN m l<m:=by
 rcases List.eq_nil_or_concat l with rfl|⟨l,x,rfl⟩
 ·exact h0
 ·rw[List.concat_eq_append,p9];exact Nat.mod_lt _ h0
def uN (i n:Nat):U64:=⟨wd i n,yj i n⟩
def sT (lo hi:Nat):List U64:=[uN 0 lo,uN 1 lo,uN 2 lo,uN 3 lo,uN 0 hi,uN 1 hi,uN 2 hi,uN 3 hi]
theorem cX (lo hi m:Nat) (hlo:lo<zd) (hhi:hi<zd):qN m (upto (ra (sT lo hi)) 8)=(hi*zd+lo)%m:=by
 have e:upto (ra (sT lo hi)) 8=[(7,uN 3 hi),(6,uN 2 hi),(5,uN 1 hi),(4,uN 0 hi),(3,uN 3 lo),(2,uN 2 lo),(1,uN 1 lo),(0,uN 0 lo)]:=rfl;have h1:=vR hlo;have h2:=vR hhi;rw[e];unfold qN;rw[js];simp only[uN];generalize wd 0 hi=a0 at *;generalize wd 1 hi=a1 at *;generalize wd 2 hi=a2 at *;generalize wd 3 hi=a3 at *;generalize wd 0 lo=b0 at *;generalize wd 1 lo=b1 at *;generalize wd 2 lo=b2 at *;generalize wd 3 lo=b3 at *;have e2:(((((((0*18446744073709551616+a3)*18446744073709551616+a2)*18446744073709551616+a1)*18446744073709551616+a0)*18446744073709551616+b3)*18446744073709551616+b2)*18446744073709551616+b1)*18446744073709551616+b0=hi*zd+lo:=by
  rw[← h1,← h2];simp only[tk,zd];omega
 rw[e2]
theorem Blk.far' {w:World} {g D:Nat} {t:TypeId} {cs:List Value} {o:Obj} (h:Blk w g t cs) (hD:D≠g):Blk (w.putObj D o) g t cs:=h.grown (grownBy_putObj' w D o) (fun e=>hD (by cases e;rfl))
theorem kM {B:Nat} {w:World} {e:TypeId} {v:Value} {lo hi:Nat} (h:w.ownsRow B e 1 v ((zc lo).length+(zc hi).length) (zc lo++zc hi)) :
  ∃ g cap,v=.slice (some ⟨g,0,none⟩) 8 cap∧B≤g∧g<w.heap.size∧∀ j,j<8→w.cell? ⟨g,j,none⟩=some (.int .u64 (((sT lo hi)[j]?.getD default).1:Int)):=by
 rcases h.2 with ⟨_,h0⟩|⟨g,cap,cur,rfl,hB,hh,hnc,hcm,hcs,ht⟩
 ·simp at h0
 ·refine⟨g,cap,rfl,hB,(Array.getElem?_eq_some_iff.1 hh).1,fun j hj=>?_⟩;rw[cell_of_row w g j cur e (0,0) hh];have hq:cur.toList[j]?=(zc lo++zc hi)[j]?:=by
   rw[← ht,List.getElem?_take,if_pos (by simp;omega)]
  rw[← Array.getElem?_toList,hq];have:j=0∨j=1∨j=2∨j=3∨j=4∨j=5∨j=6∨j=7:=by omega
  rcases this with rfl|rfl|rfl|rfl|rfl|rfl|rfl|rfl<;>rfl
set_option maxRecDepth 100000 in
theorem tW (lo hi m:Nat) (hlo:lo<zd) (hhi:hi<zd) (h0:0<m) (hs:m<18446744073709551616) (w:World) :
  Calls Tryz.prog 156 #[zk lo,zk hi,zk m] w fun e w'=>e=.returned (.tuple #[zk ((hi*zd+lo)%m),.int .i64 0])∧Below w.heap.size w w':=by
 have hmB:m<zd:=acY m hs;have he:=om (a:=m) (b:=0) Om;have hsh:uS m=true:=by simp[uS,hs]
 refine (callsIn_wide (n:=3)).1 ?_;refine callsIn_of_wp_marks Tryz.func156 rfl trivial ?_ rfl;simp only[Tryz.ntmps156,List.size_toArray,List.length_cons,List.length_nil,Nat.reduceAdd,Nat.reduceSub,Array.replicate_succ,Array.replicate_zero,List.push_toArray,List.append_toArray,List.nil_append,List.cons_append];refine wpIn_wide.2 ?_
 go_wp2_with (go_at_call 195;refine (vB m hmB _).mono ?_;rw[hsh];rintro e W ⟨rfl,hb1⟩;have g3:Blk W w.heap.size 24 (zc lo):=((((Blk.new _ _ _).alloc _).alloc _).alloc _).below hb1 (by simp;omega);have g4:Blk W (w.heap.size+1) 24 (zc hi):=(((Blk.new' (by simp)).alloc _).alloc _).below hb1 (by simp);have g5:Blk W (w.heap.size+1+1) 24 (zc m):=((Blk.new' (by simp)).alloc _).below hb1 (by simp);have g6:Blk W (w.heap.size+1+1+1) 24 tz:=(Blk.new' (by simp)).below hb1 (by simp);have hb:Ext w W:=(((((Ext.rfl' w).alloc' _).alloc' _).alloc' _).alloc' _).trans' hb1;clear hb1)
 have lt3:=g3.lt;have lt4:=g4.lt;refine Kp.wp_region_kpl 2 (by kernel_rfl) (by kernel_rfl) (fun L Fin hL hFin=>?_);have HL:=Lib.hid hL;clear hL;have HF:=Lib.hid hFin;clear hFin;simp only[List.take_succ_cons,List.take_zero,List.drop_succ_cons,List.drop_zero];apply Exists.intro
 repeat ((first|(apply Kp.kp_free;(first|rfl|(rw[HL.out];rfl));(intro w1;go_simp;rfl))|(apply Kp.kp_now;rfl;(first|rfl|(rw[HL.out];rfl));(intro w1 hb1;obtain⟨hcw,hfw⟩:=uJ hb1;clear hb1;go_simp;rfl)));simp only[Act.put,List.setIfInBounds_toArray,List.set_cons_succ,List.set_cons_zero])
 apply Kp.kp_nil;refine HF.out _ _ (fun w1 hb1 _=>?_);clear HL HF;simp only[List.drop_succ_cons,List.drop_zero];replace g3:=g3.below hb1 lt3;replace g4:=g4.below hb1 lt4;replace g5:=g5.below hb1 g5.lt;replace g6:=g6.below hb1 g6.lt;replace hb:=hb.trans' hb1;clear hb1 lt3 lt4;have l6:=g6.lt;have r3:Rd w1 (.slice (some ⟨w.heap.size,0,none⟩) 4 4) (zc lo):=⟨by simp[Value.oneCell'],.inr ⟨_,_,rfl,g3.lt,fun j u hj=>by rw[ac4];exact g3.cell_at hj⟩⟩;have r4:Rd w1 (.slice (some ⟨w.heap.size+1,0,none⟩) 4 4) (zc hi):=⟨by simp[Value.oneCell'],.inr ⟨_,_,rfl,g4.lt,fun j u hj=>by rw[ac4];exact g4.cell_at hj⟩⟩
 go_wp2_with (first|(go_at_call 196;refine (sa _ _ _ _ w1.heap.size 2 _ (r3.below rfl ((Below.refl _ _).alloc (Nat.le_refl _) _)) (r4.below rfl ((Below.refl _ _).alloc (Nat.le_refl _) _)) (Blk.new' rfl) (by simp) (by simp)).mono ?_;rintro e W2 ⟨v,rfl,hown,hb2⟩;obtain⟨g,cap,rfl,hgB,hgl,hcells⟩:=kM hown;replace g5:Blk W2 (w.heap.size+1+1) 24 (zc m):=(g5.alloc _).below hb2 (by have:=g5.lt;simp;omega);replace g6:Blk W2 (w.heap.size+1+1+1) 24 tz:=(g6.alloc _).below hb2 (by have:=g6.lt;simp;omega);replace hb:Ext w W2:=(hb.alloc' _).trans' hb2;clear hb2 hown r3 r4 g3 g4)|(go_at_call 197;refine (rx _ _ _ _).mono ?_;rintro e W3 ⟨rfl,rfl⟩))
 have hbx:(W2.alloc (.cells #[.slice (some ⟨g,0,none⟩) 8 cap] 185)).cell? ⟨W2.heap.size,0,none⟩=some (.slice (some ⟨g,0,none⟩) 8 cap):=(Blk.new W2 185 [.slice (some ⟨g,0,none⟩) 8 cap]).cell_at (i:=0) rfl;have hcx:∀ j,j<(sT lo hi).length→(W2.alloc (.cells #[.slice (some ⟨g,0,none⟩) 8 cap] 185)).cell? ⟨g,j,none⟩=some (.int .u64 (((sT lo hi)[j]?.getD default).1:Int)):=fun j hj=>(((Ext.rfl' W2).alloc' _).cell (p:=⟨g,j,none⟩) hgl).trans (hcells j hj);generalize hW3:W2.alloc (.cells #[.slice (some ⟨g,0,none⟩) 8 cap] 185)=W3 at *;have g5' : Blk W3 (w.heap.size+1+1) 24 (zc m):=by subst hW3;exact g5.alloc _
 have g6' : Blk W3 (w.heap.size+1+1+1) 24 (ahf (qN m [])):=by subst hW3;exact g6.alloc _
 have hb' : Ext w W3:=by subst hW3;exact hb.alloc' _
 have hs3:W3.heap.size=W2.heap.size+1:=by subst hW3;simp
 have h6l:=g6.lt;have hg6:w.heap.size+1+1+1<g:=by simp at hgB;omega
 clear hW3 g5 g6 hb hcells;refine (wpIn_wide (n:=3)).1 ?_
 refine wpIn_rangeFunc_ownF (F:=Fence.wide) rfl Om (gf:=230) (lb:=#[.pointer (some ⟨W2.heap.size,0,none⟩)]) rfl trivial (enters_of Tryz.func230 (by kernel_rfl) rfl)
  (qP (3 - 1) Om W2.heap.size g cap (sT lo hi) (by simp[sT]) W3 Om Om hbx hcx) uL.trans (uL.put Om Om) (Below.refl _ _) (fun _=>rfl)
  (fun pre W=>((Blk W (w.heap.size+1+1) 24 (zc m)∧Blk W (w.heap.size+1+1+1) 24 (ahf (qN m pre)))∧W3.heap.size≤W.heap.size)∧Below w.heap.size w W)
  (fun _ _ _=>False)
  (OwnFrom.and (Own.from (fun s A B row hs hg hr=>⟨⟨hs.1.1.own hg hr,hs.1.2.own hg hr⟩,Nat.le_trans hs.2 hg.size⟩) _) (ownFrom_below (Nat.le_refl _) Om))
  (fun _ _ _ _ _ hs _ _=>hs)
  ⟨⟨⟨g5',g6'⟩,Nat.le_refl _⟩,hb'⟩
  ?a1 ?assign ?body ?done ?stop
 case assign =>
  intro l x W K hK
  gi_wp2
  exact hK
 case body =>
  rintro l pre x W ⟨⟨⟨g5,g6⟩,hW3⟩,hB⟩ _;have hD:=sy (qN m pre) x.2.1 m x.2.2 hs (iU m h0 pre);rw[← p9] at hD;have hle:=x.2.2;have hlf:=iU m h0 pre;generalize hsn:qN m (pre++[x])=r' at *;generalize qN m pre=r at *;have hm0:wd 0 m=m:=Nat.mod_eq_of_lt hs;have c5:=g5.cell_at (i:=0) rfl;rw[hm0] at c5;have c6:=g6.cell_at (i:=0) rfl;have f6:=g6.frozen 0;have HS:=Lib.hid hsn;clear hm0 hsn;have l5:=g5.lt;have l6:=g6.lt
  gi_wp2_with (refine⟨trivial,?_⟩;gi_at_call 154;refine (CallsIn.inRound l (callsIn_wide.2 (hD _))).mono ?_;rintro e w2 ⟨rfl,hb2⟩;have c6':=(g6.below hb2 l6).cell_at (i:=0) rfl;have f6':=(g6.below hb2 l6).frozen 0)
  have hsz:=hB.size;refine⟨(mY hb2).trans (KeepsOthers.setCell _ _ _),⟨?_,?_⟩,⟨⟨?_,?_⟩,?_⟩,?_⟩
  ·exact (Below.heap_setCell _ _ _ _ (by show g≠w.heap.size+1+1+1;omega)).trans (hb2.block _ Om)
  ·exact (Below.heap_setCell _ _ _ _ (by show W2.heap.size≠w.heap.size+1+1+1;omega)).trans (hb2.block _ Om)
  ·have:=g5.below hb2 l5
   ((repeat' (with_reducible first|exact this|refine Blk.drew ?_|refine Blk.drewN ?_ _|refine Blk.far ?_ ?_ _|refine Blk.alloc ?_ _))<;>(first|omega|(simp;done)|(simp;omega)))
  ·rw[HS.out];exact (g6.below hb2 l6).set_ 0 _
  ·have:=hb2.size;simp;omega
  ·exact (hB.trans (hb2.mono hB.size)).setCell (by show _≤w.heap.size+1+1+1;omega) _
 case done =>
  rintro D ys W hD rfl ⟨⟨⟨g5,g6⟩,hW3⟩,hB⟩ hK;rw[show (sT lo hi).length=8 from rfl,cX lo hi m hlo hhi] at g6;rw[iQ (Nat.lt_trans (Nat.mod_lt _ h0) hs)] at g6;generalize hR:(hi*zd+lo)%m=R at *;have g6_0:=g6.cell_at (i:=0) rfl;have g6_1:=g6.cell_at (i:=1) rfl;have g6_2:=g6.cell_at (i:=2) rfl;have g6_3:=g6.cell_at (i:=3) rfl;have g6_f:=g6.frozen;have g6_l:=g6.lt;have g6_m:=Nat.lt_succ_of_lt g6_l;have g6_n:=Nat.lt_succ_of_lt g6_m;have HR:=Lib.hid hR;clear hR
  gi_wp2
  go_wp2;generalize hW4:(((W.setCell _ _).setCell _ _).setCell _ _).setCell _ _=W4;have k6:Blk W4 (w.heap.size+1+1+1) 24 (zc R):=by subst hW4;exact g6.put4 _ _ _ _
  have hD6:D≠w.heap.size+1+1+1:=by omega
  have hK4:W4.heap[D]?=some (.deferred (some [])):=by
   subst hW4;rw[Below.heap_setCell _ _ _ _ hD6,Below.heap_setCell _ _ _ _ hD6,Below.heap_setCell _ _ _ _ hD6,Below.heap_setCell _ _ _ _ hD6];exact hK
  have hB4:Below w.heap.size w W4:=by
   have hsz:=hB.size;subst hW4
   ((repeat' (with_reducible first|exact hB|refine Below.drew ?_|refine Below.drewN' ?_ _|refine Below.setCell ?_ ?_ _|refine Below.alloc ?_ ?_ _))<;>(first|omega|(simp;done)|(simp;omega)))
  clear hW4;refine⟨by simp,.inl ⟨_,_,rfl,run_takeDeferred hK4,?_⟩⟩;have k7:=k6.far' (o:=.deferred none) hD6;have k7_0:=k7.cell_at (i:=0) rfl;have k7_1:=k7.cell_at (i:=1) rfl;have k7_2:=k7.cell_at (i:=2) rfl;have k7_3:=k7.cell_at (i:=3) rfl;have k7_f:=k7.frozen;have k7_l:=k7.lt;have k7_m:=Nat.lt_succ_of_lt k7_l;have k7_n:=Nat.lt_succ_of_lt k7_m;refine⟨.tuple #[zk R,.int .i64 0],?_,by rw[HR.out],hB4.trans (belowK_b (w:=w) (Nat.le_refl _) W4 D _ _ Om hK4 rfl rfl)⟩;simp[results,Tryz.results156,go_sem,k7_0,k7_1,k7_2,k7_3]
 case stop =>
  rintro D c pre W _ _ h _;exact h.elim
theorem sL (lo hi m:Nat) (hlo:lo<zd) (hhi:hi<zd) (hm:m<zd) (h0:0<m) (w:World) :
  Calls Tryz.prog 156 #[zk lo,zk hi,zk m] w fun e w'=>e=.returned (.tuple #[zk ((hi*zd+lo)%m),.int .i64 0])∧Below w.heap.size w w':=by
 by_cases hs:m<18446744073709551616
 ·exact tW lo hi m hlo hhi h0 hs w
 ·exact so lo hi m hlo hhi hm h0 hs w
end
section
open Go.RowKit
attribute [local go_sem] yf yM
theorem lX (a b m:Nat) (ha:a<m) (hb:b<m) (hm:m<18446744073709551616) (w:World) :
  Calls Tryz.prog 109 #[.int .u64 (a:Int),.int .u64 (b:Int),.int .u64 (m:Int)] w fun e w'=>e=.returned (.int .u64 ((a*b%m:Nat):Int))∧Below w.heap.size w w':=by
 have hM:=Tryz.bits_Mul64 a b Om Om;have hlt:a*b / 18446744073709551616<m:=by
  rw[Nat.div_lt_iff_lt_mul Om];have h1:a*b≤a*m:=Nat.mul_le_mul_left _ Om;have h2:a*m≤18446744073709551615*m:=Nat.mul_le_mul_right _ Om;omega
 have hD:=sy (a*b / 18446744073709551616) (a*b%18446744073709551616) m (Nat.mod_lt _ Om) hm hlt;rw[show a*b / 18446744073709551616*18446744073709551616+a*b%18446744073709551616=a*b by rw[Nat.mul_comm (a*b / 18446744073709551616)];exact Nat.div_add_mod _ _] at hD;generalize a*b%18446744073709551616=L at *;generalize a*b / 18446744073709551616=H at *;generalize a*b / m=q at *;generalize a*b%m=r at *;have HM:=Lib.hid hM;have HD:=Lib.hid hD;clear hM hD
 go_enter Tryz.func109,Tryz.ntmps109
 go_wp2_with (first|(go_at_call 153;refine (HM.out _).mono ?_;rintro e w1 ⟨rfl,rfl⟩)|(go_at_call 154;refine (HD.out _).mono ?_;rintro e w1 ⟨rfl,hb1⟩))
 go_ret
 exact⟨by simp,hb1⟩
theorem fk (a b m:Nat) (ha:a<m) (hb:b<m) (hm:m<zd) (w:World) :
  Calls Tryz.prog 112 #[zk a,zk b,zk m] w fun e w'=>e=.returned (zk (a*b%m))∧Below w.heap.size w w':=by
 have haB:a<zd:=by omega
 have hbB:b<zd:=by omega
 have hBi:=fun w=>te m hm w;have hbw:Ext w w:=Ext.rfl' w
 by_cases hs:m<18446744073709551616
 ·have hle:zK m≤64:=vm (by simpa using hs);have hdec:decide (((zK m:Nat):Int)≤64)=true:=by simp;omega
  have e1:wd 0 a=a:=Nat.mod_eq_of_lt Om;have e2:wd 0 b=b:=Nat.mod_eq_of_lt Om;have e3:wd 0 m=m:=Nat.mod_eq_of_lt Om;have hW:∀ w,Calls Tryz.prog 109 #[.int .u64 ((wd 0 a:Nat):Int),.int .u64 ((wd 0 b:Nat):Int),.int .u64 ((wd 0 m:Nat):Int)] w fun e w'=>e=.returned (.int .u64 ((a*b%m:Nat):Int))∧Below w.heap.size w w':=by
   rw[e1,e2,e3];exact fun w=>lX a b m ha hb hs w
  clear e1 e2 e3;have hO:=fun w=>j5 (a*b%m) (Nat.lt_trans (Nat.mod_lt _ Om) hs) w;generalize zK m=N at *;generalize a*b%m=r at *
  go_enter Tryz.func112,Tryz.ntmps112
  go_wp2_with (first|(go_at_call 106;refine (hBi _).mono ?_;rintro e w1 ⟨rfl,hb1⟩;have g3:Blk w1 (w.heap.size) 24 (zc a):=Blk.below ((((Blk.new' (by first|rfl|(simp;done))).alloc _).alloc _).alloc _) hb1 (by first|(simp;done)|(simp;omega));have g4:Blk w1 (w.heap.size+1) 24 (zc b):=Blk.below (((Blk.new' (by first|rfl|(simp;done))).alloc _).alloc _) hb1 (by first|(simp;done)|(simp;omega));have g5:Blk w1 (w.heap.size+1+1) 24 (zc m):=Blk.below ((Blk.new' (by first|rfl|(simp;done))).alloc _) hb1 (by first|(simp;done)|(simp;omega));have g6:Blk w1 (w.heap.size+1+1+1) 24 (tz):=Blk.below (Blk.new' (by first|rfl|(simp;done))) hb1 (by first|(simp;done)|(simp;omega));replace hbw:=Ext.trans' (((((hbw).alloc' _).alloc' _).alloc' _).alloc' _) hb1;clear hb1 ;have g3_0:=g3.cell_at (i:=0) rfl;have g3_1:=g3.cell_at (i:=1) rfl;have g3_2:=g3.cell_at (i:=2) rfl;have g3_3:=g3.cell_at (i:=3) rfl;have g3_f:=g3.frozen;have g3_l:=g3.lt;have g3_m:=Nat.lt_succ_of_lt g3_l;have g3_n:=Nat.lt_succ_of_lt g3_m;have g4_0:=g4.cell_at (i:=0) rfl;have g4_1:=g4.cell_at (i:=1) rfl;have g4_2:=g4.cell_at (i:=2) rfl;have g4_3:=g4.cell_at (i:=3) rfl;have g4_f:=g4.frozen;have g4_l:=g4.lt;have g4_m:=Nat.lt_succ_of_lt g4_l;have g4_n:=Nat.lt_succ_of_lt g4_m;have g5_0:=g5.cell_at (i:=0) rfl;have g5_1:=g5.cell_at (i:=1) rfl;have g5_2:=g5.cell_at (i:=2) rfl;have g5_3:=g5.cell_at (i:=3) rfl;have g5_f:=g5.frozen;have g5_l:=g5.lt;have g5_m:=Nat.lt_succ_of_lt g5_l;have g5_n:=Nat.lt_succ_of_lt g5_m;have g6_0:=g6.cell_at (i:=0) rfl;have g6_1:=g6.cell_at (i:=1) rfl;have g6_2:=g6.cell_at (i:=2) rfl;have g6_3:=g6.cell_at (i:=3) rfl;have g6_f:=g6.frozen;have g6_l:=g6.lt;have g6_m:=Nat.lt_succ_of_lt g6_l;have g6_n:=Nat.lt_succ_of_lt g6_m)|(go_at_call 109;refine (hW _).mono ?_;rintro e w2 ⟨rfl,hb1⟩;replace g3:=Blk.below (g3) hb1 (by have:=g3.lt;first|exact this|(simp;omega));replace g4:=Blk.below (g4) hb1 (by have:=g4.lt;first|exact this|(simp;omega));replace g5:=Blk.below (g5) hb1 (by have:=g5.lt;first|exact this|(simp;omega));replace g6:=Blk.below (g6) hb1 (by have:=g6.lt;first|exact this|(simp;omega));replace hbw:=Ext.trans' (hbw) hb1;clear hb1 g3_0 g3_1 g3_2 g3_3 g3_f g3_l g3_m g3_n g4_0 g4_1 g4_2 g4_3 g4_f g4_l g4_m g4_n g5_0 g5_1 g5_2 g5_3 g5_f g5_l g5_m g5_n g6_0 g6_1 g6_2 g6_3 g6_f g6_l g6_m g6_n;have g6_0:=g6.cell_at (i:=0) rfl;have g6_1:=g6.cell_at (i:=1) rfl;have g6_2:=g6.cell_at (i:=2) rfl;have g6_3:=g6.cell_at (i:=3) rfl;have g6_f:=g6.frozen;have g6_l:=g6.lt;have g6_m:=Nat.lt_succ_of_lt g6_l;have g6_n:=Nat.lt_succ_of_lt g6_m)|(go_at_call 52;refine (hO _).mono ?_;rintro e w3 ⟨rfl,hb1⟩;replace g6:=Blk.below (g6) hb1 (by have:=g6.lt;first|exact this|(simp;omega));replace hbw:=Ext.trans' (hbw) hb1;clear hb1 g6_0 g6_1 g6_2 g6_3 g6_f g6_l g6_m g6_n;have g6_0:=g6.cell_at (i:=0) rfl;have g6_1:=g6.cell_at (i:=1) rfl;have g6_2:=g6.cell_at (i:=2) rfl;have g6_3:=g6.cell_at (i:=3) rfl;have g6_f:=g6.frozen;have g6_l:=g6.lt;have g6_m:=Nat.lt_succ_of_lt g6_l;have g6_n:=Nat.lt_succ_of_lt g6_m))
  have hsz:=hbw.size;refine bodyPost_ret (v:=zk r) ?_ rfl ⟨rfl,?_⟩
  ·simp[results,Tryz.results112,go_sem,g6_0,g6_1,g6_2,g6_3,g6_l]
  ·((repeat' (with_reducible first|exact hbw|refine Below.drew ?_|refine Below.drewN' ?_ _|refine Below.setCell ?_ ?_ _|refine Below.alloc ?_ ?_ _))<;>(first|omega|(simp;done)|(simp;omega)))
 ·have hle:¬ zK m≤64:=by rw[yW];simpa using hs
  have hdec:decide (((zK m:Nat):Int)≤64)=false:=by simp;omega
  have hM:=fun w=>cm a b haB hbB w;have hW:=fun w=>sL (a*b%zd) (a*b / zd) m (Nat.mod_lt _ zF) (by
   rw[Nat.div_lt_iff_lt_mul zF];exact Nat.mul_lt_mul'' haB hbB) hm Om w
  rw[show a*b / zd*zd+a*b%zd=a*b by rw[Nat.mul_comm (a*b / zd)];exact Nat.div_add_mod _ _] at hW;generalize zK m=N at *;generalize a*b%m=r at *;generalize a*b%zd=lo at *;generalize a*b / zd=hi at *
  go_enter Tryz.func112,Tryz.ntmps112
  go_wp2_with (first|(go_at_call 106;refine (hBi _).mono ?_;rintro e w1 ⟨rfl,hb1⟩;have g3:Blk w1 (w.heap.size) 24 (zc a):=Blk.below ((((Blk.new' (by first|rfl|(simp;done))).alloc _).alloc _).alloc _) hb1 (by first|(simp;done)|(simp;omega));have g4:Blk w1 (w.heap.size+1) 24 (zc b):=Blk.below (((Blk.new' (by first|rfl|(simp;done))).alloc _).alloc _) hb1 (by first|(simp;done)|(simp;omega));have g5:Blk w1 (w.heap.size+1+1) 24 (zc m):=Blk.below ((Blk.new' (by first|rfl|(simp;done))).alloc _) hb1 (by first|(simp;done)|(simp;omega));have g6:Blk w1 (w.heap.size+1+1+1) 24 (tz):=Blk.below (Blk.new' (by first|rfl|(simp;done))) hb1 (by first|(simp;done)|(simp;omega));replace hbw:=Ext.trans' (((((hbw).alloc' _).alloc' _).alloc' _).alloc' _) hb1;clear hb1 ;have g3_0:=g3.cell_at (i:=0) rfl;have g3_1:=g3.cell_at (i:=1) rfl;have g3_2:=g3.cell_at (i:=2) rfl;have g3_3:=g3.cell_at (i:=3) rfl;have g3_f:=g3.frozen;have g3_l:=g3.lt;have g3_m:=Nat.lt_succ_of_lt g3_l;have g3_n:=Nat.lt_succ_of_lt g3_m;have g4_0:=g4.cell_at (i:=0) rfl;have g4_1:=g4.cell_at (i:=1) rfl;have g4_2:=g4.cell_at (i:=2) rfl;have g4_3:=g4.cell_at (i:=3) rfl;have g4_f:=g4.frozen;have g4_l:=g4.lt;have g4_m:=Nat.lt_succ_of_lt g4_l;have g4_n:=Nat.lt_succ_of_lt g4_m)|(go_at_call 155;refine (hM _).mono ?_;rintro e w2 ⟨rfl,hb1⟩;replace g3:=Blk.below (g3) hb1 (by have:=g3.lt;first|exact this|(simp;omega));replace g4:=Blk.below (g4) hb1 (by have:=g4.lt;first|exact this|(simp;omega));replace g5:=Blk.below (g5) hb1 (by have:=g5.lt;first|exact this|(simp;omega));replace g6:=Blk.below (g6) hb1 (by have:=g6.lt;first|exact this|(simp;omega));replace hbw:=Ext.trans' (hbw) hb1;clear hb1 g3_0 g3_1 g3_2 g3_3 g3_f g3_l g3_m g3_n g4_0 g4_1 g4_2 g4_3 g4_f g4_l g4_m g4_n;have g5_0:=g5.cell_at (i:=0) rfl;have g5_1:=g5.cell_at (i:=1) rfl;have g5_2:=g5.cell_at (i:=2) rfl;have g5_3:=g5.cell_at (i:=3) rfl;have g5_f:=g5.frozen;have g5_l:=g5.lt;have g5_m:=Nat.lt_succ_of_lt g5_l;have g5_n:=Nat.lt_succ_of_lt g5_m)|(go_at_call 156;refine (hW _).mono ?_;rintro e w3 ⟨rfl,hb1⟩;replace g5:=Blk.below (((g5).alloc _).alloc _) hb1 (by have:=g5.lt;first|exact this|(simp;omega));replace g6:=Blk.below (((g6).alloc _).alloc _) hb1 (by have:=g6.lt;first|exact this|(simp;omega));have g7:Blk w3 (w2.heap.size) 24 (zc lo):=Blk.below ((Blk.new' (by first|rfl|(simp;done))).alloc _) hb1 (by first|(simp;done)|(simp;omega));have g8:Blk w3 (w2.heap.size+1) 24 (zc hi):=Blk.below (Blk.new' (by first|rfl|(simp;done))) hb1 (by first|(simp;done)|(simp;omega));replace hbw:=Ext.trans' (((hbw).alloc' _).alloc' _) hb1;clear hb1 g5_0 g5_1 g5_2 g5_3 g5_f g5_l g5_m g5_n;have g6_0:=g6.cell_at (i:=0) rfl;have g6_1:=g6.cell_at (i:=1) rfl;have g6_2:=g6.cell_at (i:=2) rfl;have g6_3:=g6.cell_at (i:=3) rfl;have g6_f:=g6.frozen;have g6_l:=g6.lt;have g6_m:=Nat.lt_succ_of_lt g6_l;have g6_n:=Nat.lt_succ_of_lt g6_m))
  have hsz:=hbw.size;refine bodyPost_ret (v:=zk r) ?_ rfl ⟨rfl,?_⟩
  ·simp[results,Tryz.results112,go_sem,g6_0,g6_1,g6_2,g6_3,g6_l]
  ·((repeat' (with_reducible first|exact hbw|refine Below.drew ?_|refine Below.drewN' ?_ _|refine Below.setCell ?_ ?_ _|refine Below.alloc ?_ ?_ _))<;>(first|omega|(simp;done)|(simp;omega)))
end
end Go.Proofs.YtiiefkchpicncaaGreatDoor
