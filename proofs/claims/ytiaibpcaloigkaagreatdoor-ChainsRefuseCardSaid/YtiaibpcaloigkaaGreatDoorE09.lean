/- Part 9 of the proof. -/
import Derived.Test.YtiaibpcaloigkaaGreatDoorE08
import Derived.Deep.LoopGhost
import Derived.WalkMore
set_option linter.unusedSimpArgs false
set_option linter.unusedVariables false
set_option maxHeartbeats 8000000
namespace Go.Proofs.YtiaibpcaloigkaaGreatDoor
section
open Go.RowKit
attribute [local go_sem] yo
theorem dN:Value.agg #[.int .u64 0,.int .u64 0,.int .u64 0,.int .u64 0]=zj 0:=sH 0 Om
theorem yP {a:Nat} (ha:a<ze) (w:World) :
  (Op.equalIn 10000 24 (zj a) (.agg #[.int .u64 0,.int .u64 0,.int .u64 0,.int .u64 0])).run Tryz.prog w=.ok (eqN a 0) w:=by
 rw[dN];exact yo ha (by unfold ze;omega) w
attribute [local go_sem] yP
theorem qO (hi lo y:Nat) (h1:lo<18446744073709551616) (h2:y<18446744073709551616) (h3:hi<y) (w:World) :
  Calls Tryz.prog 184 #[.int .u64 (hi:Int),.int .u64 (lo:Int),.int .u64 (y:Int)] w fun e w' =>
   e=.returned (.tuple #[.int .u64 (((hi*18446744073709551616+lo) / y:Nat):Int),.int .u64 (((hi*18446744073709551616+lo)%y:Nat):Int)])∧Below w.heap.size w w':=by
 rcases Nat.eq_zero_or_pos hi with rfl|h
 ·rw[Nat.zero_mul,Nat.zero_add];exact qy lo y h1 h2 Om w
 ·exact rK hi lo y h1 h2 h h3 w
abbrev qC (D k:Nat):List Value:=[.int .u64 ((qc D k 0:Nat):Int),.int .u64 ((qc D k 1:Nat):Int),.int .u64 ((qc D k 2:Nat):Int),.int .u64 ((qc D k 3:Nat):Int)]
theorem adB (D:Nat):qC D 0=zc D:=by simp[qC,qc]
theorem adx (D:Nat):qC D 4=aaz:=by simp[qC,qc]
abbrev ic (r:Nat):List Value:=[.int .u64 ((r:Nat):Int),.int .u64 0,.int .u64 0,.int .u64 0]
theorem oT {r:Nat} (h:r<18446744073709551616):ic r=zc r:=by
 have:=sH r h;simpa [zj] using this
end
section
open Go.RowKit
attribute [local go_sem] yo yP
end
section
open Go.RowKit
attribute [local go_sem] yo yP
theorem zF:0<ze:=by unfold ze;omega
end
section
open Go.RowKit
attribute [local go_sem] yo yP
theorem cd {a r0 m j:Nat} (hj:j<256) :
  eE ((r0*2 ^ j+a / 2 ^ (256 - j))%m) (ua a (255 - j)) m=(r0*2 ^ (j+1)+a / 2 ^ (256 - (j+1)))%m:=by
 have hs:=jh a (255 - j);rw[show 255 - j+1=256 - j by omega] at hs;unfold eE;rw[show 256 - (j+1)=255 - j by omega,hs,Nat.pow_succ];generalize a / 2 ^ (256 - j)=x;generalize ua a (255 - j)=d;have e:r0*(2 ^ j*2)+(x+x+d)=(r0*2 ^ j+x)+(r0*2 ^ j+x)+d:=by rw[← Nat.mul_assoc];omega
 rw[e];generalize r0*2 ^ j+x=y;simp[Nat.add_mod]
theorem i4 (r0 a m:Nat) (ha:a<ze) (hr:r0<m):(r0*2 ^ 0+a / 2 ^ (256 - 0))%m=r0:=by
 rw[Nat.div_eq_of_lt (by simpa [ze] using ha)];simp[Nat.mod_eq_of_lt hr]
theorem fK (r0 a m:Nat):(r0*2 ^ 256+a / 2 ^ (256 - 256))%m=(r0*ze+a)%m:=by simp[ze]
def nQ (hi lo i:Nat):Nat:=if i=0 then hi else lo
theorem aR {hi lo:Nat} (i:Nat) (h1:hi<ze) (h2:lo<ze):nQ hi lo i<ze:=by unfold nQ;split<;>assumption
def acq (hi lo m:Nat):Nat→Nat
 | 0=>0
 | i+1=>(acq hi lo m i*ze+nQ hi lo i)%m
theorem aeu {hi lo m:Nat} (i:Nat) (h0:0<m):acq hi lo m i<m:=by
 cases i with
 | zero=>exact h0
 | succ i=>exact Nat.mod_lt _ h0
theorem fW:zc 0=aaz:=rfl
abbrev ln (hi lo:Nat):Value:=.agg #[.int .u64 ((wd 0 hi:Nat):Int),.int .u64 ((wd 1 hi:Nat):Int),.int .u64 ((wd 2 hi:Nat):Int),.int .u64 ((wd 3 hi:Nat):Int),.int .u64 ((wd 0 lo:Nat):Int),.int .u64 ((wd 1 lo:Nat):Int),.int .u64 ((wd 2 lo:Nat):Int),.int .u64 ((wd 3 lo:Nat):Int)]
theorem qs (hi lo:Nat) (w:World):(Instr.index 332 (ln hi lo) (.int .i64 0)).run Tryz.prog w=.ok (zj hi) w:=Kr
theorem qw (hi lo:Nat) (w:World):(Instr.index 332 (ln hi lo) (.int .i64 1)).run Tryz.prog w=.ok (zj lo) w:=Kr
theorem pU (hi lo:Nat) {i:Nat} (h:i<2) (w:World):(Instr.index 332 (ln hi lo) (.int .i64 (i:Int))).run Tryz.prog w=.ok (zj (nQ hi lo i)) w:=by
 have:i=0∨i=1:=by omega
 rcases this with rfl|rfl
 ·exact qs hi lo w
 ·exact qw hi lo w
end
section
open Go.RowKit Go.Shelf
attribute [local go_sem] yo yP
attribute [local go_sem] Oper.semAt_some
theorem ab0 (g j:Nat):Addr.add ⟨g,0,none⟩ j=⟨g,j,none⟩:=by unfold Addr.add;split<;>simp_all
theorem abq (a b K m:Nat):(a%m*K+b)%m=(a*K+b)%m:=by rw[Nat.add_mod,Nat.mul_mod,Nat.mod_mod,← Nat.mul_mod,← Nat.add_mod]
def fz (K m:Nat) (l:List (Nat × U64)):Nat:=l.foldl (fun r x=>(r*K+x.2.1)%m) 0
theorem gj (K m:Nat) (l:List (Nat × U64)) (x:Nat × U64):fz K m (l++[x])=(fz K m l*K+x.2.1)%m:=by
 unfold fz;rw[List.foldl_append];rfl
theorem lW (K m:Nat) (x0 x1 x2 x3 x4 x5 x6 x7:Nat × U64):fz K m [x0,x1,x2,x3,x4,x5,x6,x7]=((((((((0*K+x0.2.1)*K+x1.2.1)*K+x2.2.1)*K+x3.2.1)*K+x4.2.1)*K+x5.2.1)*K+x6.2.1)*K+x7.2.1)%m:=by
 simp only[fz,List.foldl_cons,List.foldl_nil,abq]
def qt (m:Nat) (l:List (Nat × U64)):Nat:=fz 18446744073709551616 m l
theorem qS (m:Nat) (l:List (Nat × U64)) (x:Nat × U64):qt m (l++[x])=(qt m l*18446744073709551616+x.2.1)%m:=gj _ m l x
theorem ij (m:Nat) (h0:0<m) (l:List (Nat × U64)):qt m l<m:=by
 rcases List.eq_nil_or_concat l with rfl|⟨l,x,rfl⟩
 ·exact h0
 ·rw[List.concat_eq_append,qS];exact Nat.mod_lt _ h0
def tg (i n:Nat):U64:=⟨wd i n,yf i n⟩
def sU (lo hi:Nat):List U64:=[tg 0 lo,tg 1 lo,tg 2 lo,tg 3 lo,tg 0 hi,tg 1 hi,tg 2 hi,tg 3 hi]
theorem dO (lo hi m:Nat) (hlo:lo<ze) (hhi:hi<ze):qt m (upto (sZ (sU lo hi)) 8)=(hi*ze+lo)%m:=by
 have e:upto (sZ (sU lo hi)) 8=[(7,tg 3 hi),(6,tg 2 hi),(5,tg 1 hi),(4,tg 0 hi),(3,tg 3 lo),(2,tg 2 lo),(1,tg 1 lo),(0,tg 0 lo)]:=rfl;have h1:=vW hlo;have h2:=vW hhi;rw[e];unfold qt;rw[lW];simp only[tg];generalize wd 0 hi=a0 at *;generalize wd 1 hi=a1 at *;generalize wd 2 hi=a2 at *;generalize wd 3 hi=a3 at *;generalize wd 0 lo=b0 at *;generalize wd 1 lo=b1 at *;generalize wd 2 lo=b2 at *;generalize wd 3 lo=b3 at *;have e2:(((((((0*18446744073709551616+a3)*18446744073709551616+a2)*18446744073709551616+a1)*18446744073709551616+a0)*18446744073709551616+b3)*18446744073709551616+b2)*18446744073709551616+b1)*18446744073709551616+b0=hi*ze+lo:=by
  rw[← h1,← h2];simp only[tm,ze];omega
 rw[e2]
theorem Blk.far' {w:World} {g D:Nat} {t:TypeId} {cs:List Value} {o:Obj} (h:Blk w g t cs) (hD:D≠g):Blk (w.putObj D o) g t cs:=h.grown (grownBy_putObj' w D o) (fun e=>hD (by cases e;rfl))
theorem ka {B:Nat} {w:World} {e:TypeId} {v:Value} {lo hi:Nat} (h:w.ownsRow B e 1 v ((zc lo).length+(zc hi).length) (zc lo++zc hi)) :
  ∃ g cap,v=.slice (some ⟨g,0,none⟩) 8 cap∧B≤g∧g<w.heap.size∧∀ j,j<8→w.cell? ⟨g,j,none⟩=some (.int .u64 (((sU lo hi)[j]?.getD default).1:Int)):=by
 rcases h.2 with ⟨_,h0⟩|⟨g,cap,cur,rfl,hB,hh,hnc,hcm,hcs,ht⟩
 ·simp at h0
 ·refine⟨g,cap,rfl,hB,(Array.getElem?_eq_some_iff.1 hh).1,fun j hj=>?_⟩;rw[cell_of_row w g j cur e (0,0) hh];have hq:cur.toList[j]?=(zc lo++zc hi)[j]?:=by
   rw[← ht,List.getElem?_take,if_pos (by simp;omega)]
  rw[← Array.getElem?_toList,hq];have:j=0∨j=1∨j=2∨j=3∨j=4∨j=5∨j=6∨j=7:=by omega
  rcases this with rfl|rfl|rfl|rfl|rfl|rfl|rfl|rfl<;>rfl
set_option maxRecDepth 100000 in
theorem tH (lo hi m:Nat) (hlo:lo<ze) (hhi:hi<ze) (h0:0<m) (hs:m<18446744073709551616) (w:World) :
  Calls Tryz.prog 186 #[zj lo,zj hi,zj m] w fun e w'=>e=.returned (.tuple #[zj ((hi*ze+lo)%m),.int .i64 0])∧Below w.heap.size w w':=by
 have hmB:m<ze:=abT m hs;have he:=agq (a:=m) (b:=0) Om;have hsh:uR m=true:=by simp[uR,hs]
 refine (callsIn_wide (n:=3)).1 ?_;refine callsIn_of_wp_marks Tryz.func186 rfl trivial ?_ rfl;simp only[Tryz.ntmps186,List.size_toArray,List.length_cons,List.length_nil,Nat.reduceAdd,Nat.reduceSub,Array.replicate_succ,Array.replicate_zero,List.push_toArray,List.append_toArray,List.nil_append,List.cons_append];refine wpIn_wide.2 ?_
 go_wp2_with (go_at_call 223;refine (oQ m hmB _).mono ?_;rw[hsh];rintro e W ⟨rfl,hb1⟩;have g3:Blk W w.heap.size 24 (zc lo):=((((Blk.new _ _ _).alloc _).alloc _).alloc _).below hb1 (by simp;omega);have g4:Blk W (w.heap.size+1) 24 (zc hi):=(((Blk.new' Sm).alloc _).alloc _).below hb1 Sm;have g5:Blk W (w.heap.size+1+1) 24 (zc m):=((Blk.new' Sm).alloc _).below hb1 Sm;have g6:Blk W (w.heap.size+1+1+1) 24 aaz:=(Blk.new' Sm).below hb1 Sm;have hb:Ext w W:=(((((Ext.rfl' w).alloc' _).alloc' _).alloc' _).alloc' _).trans' hb1;clear hb1)
 have lt3:=g3.lt;have lt4:=g4.lt;refine Kp.wp_region_kpl 2 Kr Kr (fun L Fin hL hFin=>?_);have HL:=Lib.hid hL;clear hL;have HF:=Lib.hid hFin;clear hFin;simp only[List.take_succ_cons,List.take_zero,List.drop_succ_cons,List.drop_zero];apply Exists.intro
 repeat ((first|(apply Kp.kp_free;(first|rfl|(rw[HL.out];rfl));(intro w1;go_simp;rfl))|(apply Kp.kp_now;rfl;(first|rfl|(rw[HL.out];rfl));(intro w1 hb1;obtain⟨hcw,hfw⟩:=afk hb1;clear hb1;go_simp;rfl)));simp only[Act.put,List.setIfInBounds_toArray,List.set_cons_succ,List.set_cons_zero])
 apply Kp.kp_nil;refine HF.out _ _ (fun w1 hb1 _=>?_);clear HL HF;simp only[List.drop_succ_cons,List.drop_zero];replace g3:=g3.below hb1 lt3;replace g4:=g4.below hb1 lt4;replace g5:=g5.below hb1 g5.lt;replace g6:=g6.below hb1 g6.lt;replace hb:=hb.trans' hb1;clear hb1 lt3 lt4;have l6:=g6.lt;have r3:Rd w1 (.slice (some ⟨w.heap.size,0,none⟩) 4 4) (zc lo):=⟨by simp[Value.oneCell'],.inr ⟨_,_,rfl,g3.lt,fun j u hj=>by rw[ab0];exact g3.cell_at hj⟩⟩;have r4:Rd w1 (.slice (some ⟨w.heap.size+1,0,none⟩) 4 4) (zc hi):=⟨by simp[Value.oneCell'],.inr ⟨_,_,rfl,g4.lt,fun j u hj=>by rw[ab0];exact g4.cell_at hj⟩⟩
 go_wp2_with (first|(go_at_call 224;refine (sG _ _ _ _ w1.heap.size 2 _ (r3.below rfl ((Below.refl _ _).alloc (Nat.le_refl _) _)) (r4.below rfl ((Below.refl _ _).alloc (Nat.le_refl _) _)) (Blk.new' rfl) Sm Sm).mono ?_;rintro e W2 ⟨v,rfl,hown,hb2⟩;obtain⟨g,cap,rfl,hgB,hgl,hcells⟩:=ka hown;replace g5:Blk W2 (w.heap.size+1+1) 24 (zc m):=(g5.alloc _).below hb2 (by have:=g5.lt;simp;omega);replace g6:Blk W2 (w.heap.size+1+1+1) 24 aaz:=(g6.alloc _).below hb2 (by have:=g6.lt;simp;omega);replace hb:Ext w W2:=(hb.alloc' _).trans' hb2;clear hb2 hown r3 r4 g3 g4)|(go_at_call 225;refine (rF _ _ _ _).mono ?_;rintro e W3 ⟨rfl,rfl⟩))
 have hbx:(W2.alloc (.cells #[.slice (some ⟨g,0,none⟩) 8 cap] 201)).cell? ⟨W2.heap.size,0,none⟩=some (.slice (some ⟨g,0,none⟩) 8 cap):=(Blk.new W2 201 [.slice (some ⟨g,0,none⟩) 8 cap]).cell_at (i:=0) rfl;have hcx:∀ j,j<(sU lo hi).length→(W2.alloc (.cells #[.slice (some ⟨g,0,none⟩) 8 cap] 201)).cell? ⟨g,j,none⟩=some (.int .u64 (((sU lo hi)[j]?.getD default).1:Int)):=fun j hj=>(((Ext.rfl' W2).alloc' _).cell (p:=⟨g,j,none⟩) hgl).trans (hcells j hj);generalize hW3:W2.alloc (.cells #[.slice (some ⟨g,0,none⟩) 8 cap] 201)=W3 at *;have g5' : Blk W3 (w.heap.size+1+1) 24 (zc m):=by subst hW3;exact g5.alloc _
 have g6' : Blk W3 (w.heap.size+1+1+1) 24 (ic (qt m [])):=by subst hW3;exact g6.alloc _
 have hb' : Ext w W3:=by subst hW3;exact hb.alloc' _
 have hs3:W3.heap.size=W2.heap.size+1:=by subst hW3;simp
 have h6l:=g6.lt;have hg6:w.heap.size+1+1+1<g:=by simp at hgB;omega
 clear hW3 g5 g6 hb hcells;refine (wpIn_wide (n:=3)).1 ?_
 refine wpIn_rangeFunc_ownF (F:=Fence.wide) rfl Om (gf:=263) (lb:=#[.pointer (some ⟨W2.heap.size,0,none⟩)]) rfl trivial (enters_of Tryz.func263 Kr rfl)
  (qA (3 - 1) Om W2.heap.size g cap (sU lo hi) (by simp[sU]) W3 Om Om hbx hcx) uV.trans (uV.put Om Om) (Below.refl _ _) (fun _=>rfl)
  (fun pre W=>((Blk W (w.heap.size+1+1) 24 (zc m)∧Blk W (w.heap.size+1+1+1) 24 (ic (qt m pre)))∧W3.heap.size≤W.heap.size)∧Below w.heap.size w W)
  (fun _ _ _=>False)
  (OwnFrom.and (Own.from (fun s A B row hs hg hr=>⟨⟨hs.1.1.own hg hr,hs.1.2.own hg hr⟩,Nat.le_trans hs.2 hg.size⟩) _) (ownFrom_below (Nat.le_refl _) Om))
  (fun _ _ _ _ _ hs _ _=>hs)
  ⟨⟨⟨g5',g6'⟩,Nat.le_refl _⟩,hb'⟩
  ?a1 ?assign ?body ?done ?stop
 case assign =>
  intro l x W K hK
  gi_wp2
  exact hK
 case body =>
  rintro l pre x W ⟨⟨⟨g5,g6⟩,hW3⟩,hB⟩ _;have hD:=qO (qt m pre) x.2.1 m x.2.2 hs (ij m h0 pre);rw[← qS] at hD;have hle:=x.2.2;have hlf:=ij m h0 pre;generalize hsn:qt m (pre++[x])=r' at *;generalize qt m pre=r at *;have hm0:wd 0 m=m:=Nat.mod_eq_of_lt hs;have c5:=g5.cell_at (i:=0) rfl;rw[hm0] at c5;have c6:=g6.cell_at (i:=0) rfl;have f6:=g6.frozen 0;have HS:=Lib.hid hsn;clear hm0 hsn;have l5:=g5.lt;have l6:=g6.lt
  gi_wp2_with (refine⟨trivial,?_⟩;gi_at_call 184;refine (CallsIn.inRound l (callsIn_wide.2 (hD _))).mono ?_;rintro e w2 ⟨rfl,hb2⟩;have c6':=(g6.below hb2 l6).cell_at (i:=0) rfl;have f6':=(g6.below hb2 l6).frozen 0)
  have hsz:=hB.size;refine⟨(lf hb2).trans (KeepsOthers.setCell _ _ _),⟨?_,?_⟩,⟨⟨?_,?_⟩,?_⟩,?_⟩
  ·exact (Below.heap_setCell _ _ _ _ (by show g≠w.heap.size+1+1+1;omega)).trans (hb2.block _ Om)
  ·exact (Below.heap_setCell _ _ _ _ (by show W2.heap.size≠w.heap.size+1+1+1;omega)).trans (hb2.block _ Om)
  ·have:=g5.below hb2 l5
   ((repeat' (with_reducible first|exact this|refine Blk.drew ?_|refine Blk.drewN ?_ _|refine Blk.far ?_ ?_ _|refine Blk.alloc ?_ _))<;>(first|omega|(simp;done)|(simp;omega)))
  ·rw[HS.out];exact (g6.below hb2 l6).set_ 0 _
  ·have:=hb2.size;simp;omega
  ·exact (hB.trans (hb2.mono hB.size)).setCell (by show _≤w.heap.size+1+1+1;omega) _
 case done =>
  rintro D ys W hD rfl ⟨⟨⟨g5,g6⟩,hW3⟩,hB⟩ hK;rw[show (sU lo hi).length=8 from rfl,dO lo hi m hlo hhi] at g6;rw[oT (Nat.lt_trans (Nat.mod_lt _ h0) hs)] at g6;generalize hR:(hi*ze+lo)%m=R at *;have g6_0:=g6.cell_at (i:=0) rfl;have g6_1:=g6.cell_at (i:=1) rfl;have g6_2:=g6.cell_at (i:=2) rfl;have g6_3:=g6.cell_at (i:=3) rfl;have g6_f:=g6.frozen;have g6_l:=g6.lt;have g6_m:=Nat.lt_succ_of_lt g6_l;have g6_n:=Nat.lt_succ_of_lt g6_m;have HR:=Lib.hid hR;clear hR
  gi_wp2
  go_wp2;generalize hW4:(((W.setCell _ _).setCell _ _).setCell _ _).setCell _ _=W4;have k6:Blk W4 (w.heap.size+1+1+1) 24 (zc R):=by subst hW4;exact g6.put4 _ _ _ _
  have hD6:D≠w.heap.size+1+1+1:=by omega
  have hK4:W4.heap[D]?=some (.deferred (some [])):=by
   subst hW4;rw[Below.heap_setCell _ _ _ _ hD6,Below.heap_setCell _ _ _ _ hD6,Below.heap_setCell _ _ _ _ hD6,Below.heap_setCell _ _ _ _ hD6];exact hK
  have hB4:Below w.heap.size w W4:=by
   have hsz:=hB.size;subst hW4
   ((repeat' (with_reducible first|exact hB|refine Below.drew ?_|refine Below.drewN' ?_ _|refine Below.setCell ?_ ?_ _|refine Below.alloc ?_ ?_ _))<;>(first|omega|(simp;done)|(simp;omega)))
  clear hW4;refine⟨by simp,.inl ⟨_,_,rfl,run_takeDeferred hK4,?_⟩⟩;have k7:=k6.far' (o:=.deferred none) hD6;have k7_0:=k7.cell_at (i:=0) rfl;have k7_1:=k7.cell_at (i:=1) rfl;have k7_2:=k7.cell_at (i:=2) rfl;have k7_3:=k7.cell_at (i:=3) rfl;have k7_f:=k7.frozen;have k7_l:=k7.lt;have k7_m:=Nat.lt_succ_of_lt k7_l;have k7_n:=Nat.lt_succ_of_lt k7_m;refine⟨.tuple #[zj R,.int .i64 0],?_,by rw[HR.out],hB4.trans (belowK_b (w:=w) (Nat.le_refl _) W4 D _ _ Om hK4 rfl rfl)⟩;simp[results,Tryz.results186,go_sem,k7_0,k7_1,k7_2,k7_3]
 case stop =>
  rintro D c pre W _ _ h _;exact h.elim
end
section
open Go.RowKit
attribute [local go_sem] yo yP
end
end Go.Proofs.YtiaibpcaloigkaaGreatDoor
