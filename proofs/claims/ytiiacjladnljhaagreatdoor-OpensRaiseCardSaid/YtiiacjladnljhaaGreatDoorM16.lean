/- Part 16 of the proof: WidB, MulW, LimM -/
import Derived.Test.YtiiacjladnljhaaGreatDoorM12
import Derived.Test.YtiiacjladnljhaaGreatDoorM15
import Derived.Test.YtiiacjladnljhaaGreatDoorM07
import Derived.Test.YtiiacjladnljhaaGreatDoorM13
set_option linter.unusedSimpArgs false
set_option linter.unusedVariables false
namespace Go.Proofs.YtiiacjladnljhaaGreatDoor
open Go.RowKit Go.Shelf
attribute [local go_sem] run_eqin_num run_eqin_zero
attribute [local go_sem] Oper.semAt_some
theorem add_at (g j:Nat):Addr.add ⟨g,0,none⟩ j=⟨g,j,none⟩:=by unfold Addr.add;split<;>simp_all
theorem mod_step (a b K m:Nat):(a%m*K+b)%m=(a*K+b)%m:=by rw[Nat.add_mod,Nat.mul_mod,Nat.mod_mod,← Nat.mul_mod,← Nat.add_mod]
def foldG (K m:Nat) (l:List (Nat × U64)):Nat:=l.foldl (fun r x=>(r*K+x.2.1)%m) 0
theorem foldG_snoc (K m:Nat) (l:List (Nat × U64)) (x:Nat × U64):foldG K m (l++[x])=(foldG K m l*K+x.2.1)%m:=by
  unfold foldG
  rw[List.foldl_append]
  rfl
theorem foldG_eight (K m:Nat) (x0 x1 x2 x3 x4 x5 x6 x7:Nat × U64):foldG K m [x0,x1,x2,x3,x4,x5,x6,x7]=((((((((0*K+x0.2.1)*K+x1.2.1)*K+x2.2.1)*K+x3.2.1)*K+x4.2.1)*K+x5.2.1)*K+x6.2.1)*K+x7.2.1)%m:=by
  simp only[foldG,List.foldl_cons,List.foldl_nil,mod_step]
def foldW (m:Nat) (l:List (Nat × U64)):Nat:=foldG 18446744073709551616 m l
theorem foldW_snoc (m:Nat) (l:List (Nat × U64)) (x:Nat × U64):foldW m (l++[x])=(foldW m l*18446744073709551616+x.2.1)%m:=foldG_snoc _ m l x
theorem foldW_lt (m:Nat) (h0:0<m) (l:List (Nat × U64)):foldW m l<m:=by
  rcases List.eq_nil_or_concat l with rfl|⟨l,x,rfl⟩
  · exact h0
  · rw[List.concat_eq_append,foldW_snoc];exact Nat.mod_lt _ h0
def wordU (i n:Nat):U64:=⟨wd i n,wd_lt i n⟩
def wordsU (lo hi:Nat):List U64:=[wordU 0 lo,wordU 1 lo,wordU 2 lo,wordU 3 lo,wordU 0 hi,wordU 1 hi,wordU 2 hi,wordU 3 hi]
theorem foldW_all (lo hi m:Nat) (hlo:lo<B256) (hhi:hi<B256):foldW m (upto (backF (wordsU lo hi)) 8)=(hi*B256+lo)%m:=by
  have e:upto (backF (wordsU lo hi)) 8=[(7,wordU 3 hi),(6,wordU 2 hi),(5,wordU 1 hi),(4,wordU 0 hi),(3,wordU 3 lo),(2,wordU 2 lo),(1,wordU 1 lo),(0,wordU 0 lo)]:=rfl
  have h1:=val4_wd hlo
  have h2:=val4_wd hhi
  rw[e]
  unfold foldW
  rw[foldG_eight]
  simp only[wordU]
  generalize wd 0 hi=a0 at *;generalize wd 1 hi=a1 at *;generalize wd 2 hi=a2 at *;generalize wd 3 hi=a3 at *
  generalize wd 0 lo=b0 at *;generalize wd 1 lo=b1 at *;generalize wd 2 lo=b2 at *;generalize wd 3 lo=b3 at *
  have e2:(((((((0*18446744073709551616+a3)*18446744073709551616+a2)*18446744073709551616+a1)*18446744073709551616+a0)*18446744073709551616+b3)*18446744073709551616+b2)*18446744073709551616+b1)*18446744073709551616+b0=hi*B256+lo:=by
    rw[← h1,← h2]
    simp only[val4,B256]
    omega
  rw[e2]
theorem Blk.far' {w:World} {g D:Nat} {t:TypeId} {cs:List Value} {o:Obj} (h:Blk w g t cs) (hD:D≠g):Blk (w.putObj D o) g t cs:=h.grown (grownBy_putObj' w D o) (fun e=>hD (by cases e;rfl))
theorem owned_words {B:Nat} {w:World} {e:TypeId} {v:Value} {lo hi:Nat} (h:w.ownsRow B e 1 v ((numC lo).length+(numC hi).length) (numC lo++numC hi)) :
    ∃ g cap,v=.slice (some ⟨g,0,none⟩) 8 cap∧B≤g∧g<w.heap.size∧∀ j,j<8→w.cell? ⟨g,j,none⟩=some (.int .u64 (((wordsU lo hi)[j]?.getD default).1:Int)):=by
  rcases h.2 with ⟨_,h0⟩|⟨g,cap,cur,rfl,hB,hh,hnc,hcm,hcs,ht⟩
  · simp at h0
  · refine⟨g,cap,rfl,hB,(Array.getElem?_eq_some_iff.1 hh).1,fun j hj=>?_⟩
    rw[cell_of_row w g j cur e (0,0) hh]
    have hq:cur.toList[j]?=(numC lo++numC hi)[j]?:=by
      rw[← ht,List.getElem?_take,if_pos (by simp;omega)]
    rw[← Array.getElem?_toList,hq]
    have:j=0∨j=1∨j=2∨j=3∨j=4∨j=5∨j=6∨j=7:=by omega
    rcases this with rfl|rfl|rfl|rfl|rfl|rfl|rfl|rfl<;>rfl
set_option maxRecDepth 100000 in
set_option maxHeartbeats 2000000 in
theorem divides_Wide_short (lo hi m:Nat) (hlo:lo<B256) (hhi:hi<B256) (h0:0<m) (hs:m<18446744073709551616) (w:World) :
    Calls Tryz.prog 222 #[numV lo,numV hi,numV m] w fun e w'=>e=.returned (.tuple #[numV ((hi*B256+lo)%m),.int .i64 0])∧Below w.heap.size w w':=by
  have hmB:m<B256:=B64_lt m hs
  have he:=eqN_no (a:=m) (b:=0) (by omega)
  have hsh:shortN m=true:=by simp[shortN,hs]
  refine (callsIn_wide (n:=3)).1 ?_
  refine callsIn_of_wp_marks Tryz.func222 rfl trivial ?_ rfl
  simp only[Tryz.ntmps222,List.size_toArray,List.length_cons,List.length_nil,Nat.reduceAdd,Nat.reduceSub,Array.replicate_succ,Array.replicate_zero,List.push_toArray,List.append_toArray,List.nil_append,List.cons_append]
  refine wpIn_wide.2 ?_
  go_wp2_with (go_at_call 252;refine (divides_short m hmB _).mono ?_;rw[hsh];rintro e W ⟨rfl,hb1⟩;have g3:Blk W w.heap.size 24 (numC lo):=((((Blk.new _ _ _).alloc _).alloc _).alloc _).below hb1 (by simp;omega);have g4:Blk W (w.heap.size+1) 24 (numC hi):=(((Blk.new' (by simp)).alloc _).alloc _).below hb1 (by simp);have g5:Blk W (w.heap.size+1+1) 24 (numC m):=((Blk.new' (by simp)).alloc _).below hb1 (by simp);have g6:Blk W (w.heap.size+1+1+1) 24 zeroC:=(Blk.new' (by simp)).below hb1 (by simp);have hb:Ext w W:=(((((Ext.rfl' w).alloc' _).alloc' _).alloc' _).alloc' _).trans' hb1;clear hb1)
  have lt3:=g3.lt
  have lt4:=g4.lt
  refine Kp.wp_region_kpl 2 (by kernel_rfl) (by kernel_rfl) (fun L Fin hL hFin=>?_)
  have HL:=Lib.hid hL;clear hL
  have HF:=Lib.hid hFin;clear hFin
  simp only[List.take_succ_cons,List.take_zero,List.drop_succ_cons,List.drop_zero]
  apply Exists.intro
  repeat ((first|(apply Kp.kp_free;(first|rfl|(rw[HL.out];rfl));(intro w1;go_simp;rfl))|(apply Kp.kp_now;rfl;(first|rfl|(rw[HL.out];rfl));(intro w1 hb1;obtain⟨hcw,hfw⟩:=bcell hb1;clear hb1;go_simp;rfl)));simp only[Act.put,List.setIfInBounds_toArray,List.set_cons_succ,List.set_cons_zero])
  apply Kp.kp_nil
  refine HF.out _ _ (fun w1 hb1 _=>?_)
  clear HL HF
  simp only[List.drop_succ_cons,List.drop_zero]
  replace g3:=g3.below hb1 lt3
  replace g4:=g4.below hb1 lt4
  replace g5:=g5.below hb1 g5.lt
  replace g6:=g6.below hb1 g6.lt
  replace hb:=hb.trans' hb1
  clear hb1 lt3 lt4
  have l6:=g6.lt
  have r3:Rd w1 (.slice (some ⟨w.heap.size,0,none⟩) 4 4) (numC lo):=⟨by simp[Value.oneCell'],.inr ⟨_,_,rfl,g3.lt,fun j u hj=>by rw[add_at];exact g3.cell_at hj⟩⟩
  have r4:Rd w1 (.slice (some ⟨w.heap.size+1,0,none⟩) 4 4) (numC hi):=⟨by simp[Value.oneCell'],.inr ⟨_,_,rfl,g4.lt,fun j u hj=>by rw[add_at];exact g4.cell_at hj⟩⟩
  go_wp2_with (first|(go_at_call 253;refine (slices_Concat_u64 _ _ _ _ w1.heap.size 2 _ (r3.below rfl ((Below.refl _ _).alloc (Nat.le_refl _) _)) (r4.below rfl ((Below.refl _ _).alloc (Nat.le_refl _) _)) (Blk.new' rfl) (by simp) (by simp)).mono ?_;rintro e W2 ⟨v,rfl,hown,hb2⟩;obtain⟨g,cap,rfl,hgB,hgl,hcells⟩:=owned_words hown;replace g5:Blk W2 (w.heap.size+1+1) 24 (numC m):=(g5.alloc _).below hb2 (by have:=g5.lt;simp;omega);replace g6:Blk W2 (w.heap.size+1+1+1) 24 zeroC:=(g6.alloc _).below hb2 (by have:=g6.lt;simp;omega);replace hb:Ext w W2:=(hb.alloc' _).trans' hb2;clear hb2 hown r3 r4 g3 g4)|(go_at_call 254;refine (slices_Backward _ _ _ _).mono ?_;rintro e W3 ⟨rfl,rfl⟩))
  have hbx:(W2.alloc (.cells #[.slice (some ⟨g,0,none⟩) 8 cap] 289)).cell? ⟨W2.heap.size,0,none⟩=some (.slice (some ⟨g,0,none⟩) 8 cap):=(Blk.new W2 289 [.slice (some ⟨g,0,none⟩) 8 cap]).cell_at (i:=0) rfl
  have hcx:∀ j,j<(wordsU lo hi).length→(W2.alloc (.cells #[.slice (some ⟨g,0,none⟩) 8 cap] 289)).cell? ⟨g,j,none⟩=some (.int .u64 (((wordsU lo hi)[j]?.getD default).1:Int)):=fun j hj=>(((Ext.rfl' W2).alloc' _).cell (p:=⟨g,j,none⟩) hgl).trans (hcells j hj)
  generalize hW3:W2.alloc (.cells #[.slice (some ⟨g,0,none⟩) 8 cap] 289)=W3 at *
  have g5' : Blk W3 (w.heap.size+1+1) 24 (numC m):=by subst hW3;exact g5.alloc _
  have g6' : Blk W3 (w.heap.size+1+1+1) 24 (oneC (foldW m [])):=by subst hW3;exact g6.alloc _
  have hb' : Ext w W3:=by subst hW3;exact hb.alloc' _
  have hs3:W3.heap.size=W2.heap.size+1:=by subst hW3;simp
  have h6l:=g6.lt
  have hg6:w.heap.size+1+1+1<g:=by simp at hgB;omega
  clear hW3 g5 g6 hb hcells
  refine (wpIn_wide (n:=3)).1 ?_
  refine wpIn_rangeFunc_ownF (F:=Fence.wide) rfl (by omega) (gf:=269) (lb:=#[.pointer (some ⟨W2.heap.size,0,none⟩)]) rfl trivial (enters_of Tryz.func269 (by kernel_rfl) rfl)
    (backward_stops (3 - 1) (by omega) W2.heap.size g cap (wordsU lo hi) (by simp[wordsU]) W3 (by omega) (by omega) hbx hcx) Keep2.trans (Keep2.put (by omega) (by omega)) (Below.refl _ _) (fun _=>rfl)
    (fun pre W=>((Blk W (w.heap.size+1+1) 24 (numC m)∧Blk W (w.heap.size+1+1+1) 24 (oneC (foldW m pre)))∧W3.heap.size≤W.heap.size)∧Below w.heap.size w W)
    (fun _ _ _=>False)
    (OwnFrom.and (Own.from (fun s A B row hs hg hr=>⟨⟨hs.1.1.own hg hr,hs.1.2.own hg hr⟩,Nat.le_trans hs.2 hg.size⟩) _) (ownFrom_below (Nat.le_refl _) (by omega)))
    (fun _ _ _ _ _ hs _ _=>hs)
    ⟨⟨⟨g5',g6'⟩,Nat.le_refl _⟩,hb'⟩
    ?a1 ?assign ?body ?done ?stop
  case assign =>
    intro l x W K hK
    gi_wp2
    exact hK
  case body =>
    rintro l pre x W ⟨⟨⟨g5,g6⟩,hW3⟩,hB⟩ _
    have hD:=bits_Div64 (foldW m pre) x.2.1 m x.2.2 hs (foldW_lt m h0 pre)
    rw[← foldW_snoc] at hD
    have hle:=x.2.2
    have hlf:=foldW_lt m h0 pre
    generalize hsn:foldW m (pre++[x])=r' at *
    generalize foldW m pre=r at *
    have hm0:wd 0 m=m:=Nat.mod_eq_of_lt hs
    have c5:=g5.cell_at (i:=0) rfl
    rw[hm0] at c5
    have c6:=g6.cell_at (i:=0) rfl
    have f6:=g6.frozen 0
    have HS:=Lib.hid hsn
    clear hm0 hsn
    have l5:=g5.lt
    have l6:=g6.lt
    gi_wp2_with (refine⟨trivial,?_⟩;gi_at_call 220;refine (CallsIn.inRound l (callsIn_wide.2 (hD _))).mono ?_;rintro e w2 ⟨rfl,hb2⟩;have c6':=(g6.below hb2 l6).cell_at (i:=0) rfl;have f6':=(g6.below hb2 l6).frozen 0)
    have hsz:=hB.size
    refine⟨(keeps_of_ext hb2).trans (KeepsOthers.setCell _ _ _),⟨?_,?_⟩,⟨⟨?_,?_⟩,?_⟩,?_⟩
    · exact (Below.heap_setCell _ _ _ _ (by show g≠w.heap.size+1+1+1;omega)).trans (hb2.block _ (by omega))
    · exact (Below.heap_setCell _ _ _ _ (by show W2.heap.size≠w.heap.size+1+1+1;omega)).trans (hb2.block _ (by omega))
    · have:=g5.below hb2 l5
      ((repeat' (with_reducible first|exact this|refine Blk.drew ?_|refine Blk.drewN ?_ _|refine Blk.far ?_ ?_ _|refine Blk.alloc ?_ _))<;>(first|omega|(simp;done)|(simp;omega)))
    · rw[HS.out]
      exact (g6.below hb2 l6).set_ 0 _
    · have:=hb2.size
      simp;omega
    · exact (hB.trans (hb2.mono hB.size)).setCell (by show _≤w.heap.size+1+1+1;omega) _
  case done =>
    rintro D ys W hD rfl ⟨⟨⟨g5,g6⟩,hW3⟩,hB⟩ hK
    rw[show (wordsU lo hi).length=8 from rfl,foldW_all lo hi m hlo hhi] at g6
    rw[oneC_num (Nat.lt_trans (Nat.mod_lt _ h0) hs)] at g6
    generalize hR:(hi*B256+lo)%m=R at *
    have g6_0:=g6.cell_at (i:=0) rfl;have g6_1:=g6.cell_at (i:=1) rfl;have g6_2:=g6.cell_at (i:=2) rfl;have g6_3:=g6.cell_at (i:=3) rfl;have g6_f:=g6.frozen;have g6_l:=g6.lt;have g6_m:=Nat.lt_succ_of_lt g6_l;have g6_n:=Nat.lt_succ_of_lt g6_m
    have HR:=Lib.hid hR
    clear hR
    gi_wp2
    go_wp2
    generalize hW4:(((W.setCell _ _).setCell _ _).setCell _ _).setCell _ _=W4
    have k6:Blk W4 (w.heap.size+1+1+1) 24 (numC R):=by subst hW4;exact g6.put4 _ _ _ _
    have hD6:D≠w.heap.size+1+1+1:=by omega
    have hK4:W4.heap[D]?=some (.deferred (some [])):=by
      subst hW4
      rw[Below.heap_setCell _ _ _ _ hD6,Below.heap_setCell _ _ _ _ hD6,Below.heap_setCell _ _ _ _ hD6,Below.heap_setCell _ _ _ _ hD6]
      exact hK
    have hB4:Below w.heap.size w W4:=by
      have hsz:=hB.size
      subst hW4
      ((repeat' (with_reducible first|exact hB|refine Below.drew ?_|refine Below.drewN' ?_ _|refine Below.setCell ?_ ?_ _|refine Below.alloc ?_ ?_ _))<;>(first|omega|(simp;done)|(simp;omega)))
    clear hW4
    refine⟨by simp,.inl ⟨_,_,rfl,run_takeDeferred hK4,?_⟩⟩
    have k7:=k6.far' (o:=.deferred none) hD6
    have k7_0:=k7.cell_at (i:=0) rfl;have k7_1:=k7.cell_at (i:=1) rfl;have k7_2:=k7.cell_at (i:=2) rfl;have k7_3:=k7.cell_at (i:=3) rfl;have k7_f:=k7.frozen;have k7_l:=k7.lt;have k7_m:=Nat.lt_succ_of_lt k7_l;have k7_n:=Nat.lt_succ_of_lt k7_m
    refine⟨.tuple #[numV R,.int .i64 0],?_,by rw[HR.out],hB4.trans (belowK_b (w:=w) (Nat.le_refl _) W4 D _ _ (by omega) hK4 rfl rfl)⟩
    simp[results,Tryz.results222,go_sem,k7_0,k7_1,k7_2,k7_3]
  case stop =>
    rintro D c pre W _ _ h _
    exact h.elim
theorem divides_Wide (lo hi m:Nat) (hlo:lo<B256) (hhi:hi<B256) (hm:m<B256) (h0:0<m) (w:World) :
    Calls Tryz.prog 222 #[numV lo,numV hi,numV m] w fun e w'=>e=.returned (.tuple #[numV ((hi*B256+lo)%m),.int .i64 0])∧Below w.heap.size w w':=by
  by_cases hs:m<18446744073709551616
  · exact divides_Wide_short lo hi m hlo hhi h0 hs w
  · exact divides_Wide_long lo hi m hlo hhi hm h0 hs w
end Go.Proofs.YtiiacjladnljhaaGreatDoor
namespace Go.Proofs.YtiiacjladnljhaaGreatDoor
def WB:Nat:=18446744073709551616
def valL:List Nat→Nat
  | []=>0
  | x::l=>x+WB*valL l
theorem valL_set:∀ (l:List Nat) (j v:Nat),j<l.length→valL (l.set j v)+l.getD j 0*WB ^ j=valL l+v*WB ^ j
  | [],_,_,h=>by simp at h
  | x::l,0,v,_=>by simp[valL];omega
  | x::l,j+1,v,h=>by
    have ih:=valL_set l j v (by simpa using h)
    simp only[List.set_cons_succ,valL,List.getD_cons_succ,Nat.pow_succ']
    have h1:WB*(valL (l.set j v)+l.getD j 0*WB ^ j)=WB*(valL l+v*WB ^ j):=by rw[ih]
    rw[Nat.mul_add,Nat.mul_add] at h1
    rw[show l.getD j 0*(WB*WB ^ j)=WB*(l.getD j 0*WB ^ j) by rw[Nat.mul_left_comm],show v*(WB*WB ^ j)=WB*(v*WB ^ j) by rw[Nat.mul_left_comm]]
    omega
theorem valL_zeros (n:Nat):valL (List.replicate n 0)=0:=by
  induction n with
  | zero=>rfl
  | succ n ih=>simp[List.replicate_succ,valL,ih]
def part (a:Nat):Nat→Nat
  | 0=>0
  | k+1=>part a k+wd k a*WB ^ k
theorem part_four {a:Nat} (h:a<B256):part a 4=a:=by
  have:=val4_wd h
  simp only[part,val4,WB] at *
  omega
def MulInv (a b i k more:Nat) (l:List Nat):Prop :=
  l.length=8∧(∀ x∈l,x<18446744073709551616)∧more<18446744073709551616∧(∀ j,i+4≤j→l.getD j 0=0) ∧
  valL l+more*WB ^ (i+k)=part a i*b+wd i a*part b k*WB ^ i
theorem MulInv.step {a b i k more:Nat} {l:List Nat} (h:MulInv a b i k more l) (hi:i<4) (hk:k<4) :
    MulInv a b i (k+1) ((wd i a*wd k b+l.getD (i+k) 0+more) / 18446744073709551616) (l.set (i+k) ((wd i a*wd k b+l.getD (i+k) 0+more)%18446744073709551616)):=by
  obtain⟨h1,h2,h3,h4,h5⟩:=h
  have hx:=wd_lt i a
  have hy:=wd_lt k b
  have hl:l.getD (i+k) 0<18446744073709551616:=by
    rw[List.getD_eq_getElem?_getD,List.getElem?_eq_getElem (by omega),Option.getD_some]
    exact h2 _ (List.getElem_mem _)
  have hm:wd i a*wd k b≤18446744073709551615*18446744073709551615:=Nat.mul_le_mul (by omega) (by omega)
  have hdm:=Nat.div_add_mod (wd i a*wd k b+l.getD (i+k) 0+more) 18446744073709551616
  refine⟨by simp[h1],fun x hx'=>?_,?_,fun j hj=>?_,?_⟩
  · rcases List.mem_or_eq_of_mem_set hx' with h|h
    · exact h2 x h
    · rw[h];exact Nat.mod_lt _ (by omega)
  · generalize wd i a*wd k b=p at *
    omega
  · rw[List.getD_eq_getElem?_getD,List.getElem?_set_ne (by omega),← List.getD_eq_getElem?_getD]
    exact h4 j hj
  · have hs:=valL_set l (i+k) ((wd i a*wd k b+l.getD (i+k) 0+more)%18446744073709551616) (by omega)
    generalize (wd i a*wd k b+l.getD (i+k) 0+more) / 18446744073709551616=H at *
    generalize (wd i a*wd k b+l.getD (i+k) 0+more)%18446744073709551616=L at *
    generalize valL (l.set (i+k) L)=V' at *
    generalize l.getD (i+k) 0=c at *
    have e1:H*WB ^ (i+(k+1))=(WB*H)*WB ^ (i+k):=by
      rw[show i+(k+1)=(i+k)+1 by omega,Nat.pow_succ',← Nat.mul_assoc,Nat.mul_comm H WB]
    have e2:(18446744073709551616*H+L)*WB ^ (i+k)=(wd i a*wd k b+c+more)*WB ^ (i+k):=by rw[hdm]
    rw[Nat.add_mul,Nat.add_mul,Nat.add_mul] at e2
    have e3:wd i a*part b (k+1)*WB ^ i=wd i a*part b k*WB ^ i+wd i a*wd k b*WB ^ (i+k):=by
      simp only[part]
      rw[Nat.mul_add,Nat.add_mul]
      congr 1
      rw[Nat.pow_add,Nat.mul_assoc,Nat.mul_assoc,Nat.mul_assoc,Nat.mul_comm (WB ^ k) (WB ^ i)]
    rw[e1,e3]
    have e4:WB*H=18446744073709551616*H:=rfl
    rw[e4]
    omega
theorem MulInv.next {a b i more:Nat} {l:List Nat} (h:MulInv a b i 4 more l) (hb:b<B256) (hi:i<4):MulInv a b (i+1) 0 0 (l.set (i+4) more):=by
  obtain⟨h1,h2,h3,h4,h5⟩:=h
  have hs:=valL_set l (i+4) more (by omega)
  rw[h4 (i+4) (by omega)] at hs
  refine⟨by simp[h1],fun x hx=>?_,by omega,fun j hj=>?_,?_⟩
  · rcases List.mem_or_eq_of_mem_set hx with h|h
    · exact h2 x h
    · rw[h];exact h3
  · rw[List.getD_eq_getElem?_getD,List.getElem?_set_ne (by omega),← List.getD_eq_getElem?_getD]
    exact h4 j (by omega)
  · rw[part_four hb] at h5
    simp only[part,Nat.zero_mul,Nat.mul_zero,Nat.add_zero] at hs ⊢
    rw[Nat.add_mul,hs,h5,Nat.mul_assoc,Nat.mul_comm b,← Nat.mul_assoc]
theorem MulInv.start (a b:Nat):MulInv a b 0 0 0 (List.replicate 8 0):=by
  refine⟨rfl,fun x hx=>?_,by omega,fun j _=>?_,?_⟩
  · rw[List.eq_of_mem_replicate hx];omega
  · have:∀ (n j:Nat),(List.replicate n 0).getD j 0=0:=by
      intro n j
      rw[List.getD_eq_getElem?_getD,List.getElem?_replicate]
      split<;>rfl
    exact this 8 j
  · rw[valL_zeros];simp[part]
theorem mul_end {a b:Nat} {l:List Nat} (h:MulInv a b 4 0 0 l) (ha:a<B256) :
    val4 (l.getD 0 0) (l.getD 1 0) (l.getD 2 0) (l.getD 3 0)=a*b%B256∧val4 (l.getD 4 0) (l.getD 5 0) (l.getD 6 0) (l.getD 7 0)=a*b / B256:=by
  obtain⟨h1,h2,_,_,h5⟩:=h
  rw[part_four ha] at h5
  match l,h1 with
  | [x0,x1,x2,x3,x4,x5,x6,x7],_ =>
    have b0:=h2 x0 (by simp);have b1:=h2 x1 (by simp);have b2:=h2 x2 (by simp);have b3:=h2 x3 (by simp)
    simp only[part,Nat.zero_mul,Nat.mul_zero,Nat.add_zero] at h5
    rw[← h5]
    have hlo:=val4_lt b0 b1 b2 b3
    have e:valL [x0,x1,x2,x3,x4,x5,x6,x7]=val4 x0 x1 x2 x3+B256*val4 x4 x5 x6 x7:=by
      simp only[valL,WB,val4,B256];omega
    rw[e]
    show val4 x0 x1 x2 x3=_∧val4 x4 x5 x6 x7=_
    have hp:0<B256:=by unfold B256;omega
    rw[Nat.add_mul_mod_self_left,Nat.mod_eq_of_lt hlo,Nat.add_mul_div_left _ _ hp,Nat.div_eq_of_lt hlo]
    exact⟨rfl,by omega⟩
end Go.Proofs.YtiiacjladnljhaaGreatDoor
namespace Go.Proofs.YtiiacjladnljhaaGreatDoor
open Go.RowKit
def u64s (l:List Nat):List Value:=l.map fun n=>.int .u64 ((n:Nat):Int)
theorem u64s_get {l:List Nat} {j:Nat} (h:j<l.length):(u64s l)[j]?=some (.int .u64 ((l.getD j 0:Nat):Int)):=by
  unfold u64s
  rw[List.getElem?_map,List.getD_eq_getElem?_getD,List.getElem?_eq_getElem h]
  rfl
theorem u64s_set (l:List Nat) (j v:Nat):(u64s l).set j (.int .u64 ((v:Nat):Int))=u64s (l.set j v):=by
  unfold u64s
  rw[← List.map_set]
theorem run_index_num0 (a:Nat) (w:World):(Instr.index 24 (numV a) (.int .i64 0)).run Tryz.prog w=.ok (.int .u64 ((wd 0 a:Nat):Int)) w:=by kernel_rfl
theorem run_index_num1 (a:Nat) (w:World):(Instr.index 24 (numV a) (.int .i64 1)).run Tryz.prog w=.ok (.int .u64 ((wd 1 a:Nat):Int)) w:=by kernel_rfl
theorem run_index_num2 (a:Nat) (w:World):(Instr.index 24 (numV a) (.int .i64 2)).run Tryz.prog w=.ok (.int .u64 ((wd 2 a:Nat):Int)) w:=by kernel_rfl
theorem run_index_num3 (a:Nat) (w:World):(Instr.index 24 (numV a) (.int .i64 3)).run Tryz.prog w=.ok (.int .u64 ((wd 3 a:Nat):Int)) w:=by kernel_rfl
theorem run_index_num (a:Nat) {i:Nat} (h:i<4) (w:World):(Instr.index 24 (numV a) (.int .i64 (i:Int))).run Tryz.prog w=.ok (.int .u64 ((wd i a:Nat):Int)) w:=by
  have:i=0∨i=1∨i=2∨i=3:=by omega
  rcases this with rfl|rfl|rfl|rfl
  · exact run_index_num0 a w
  · exact run_index_num1 a w
  · exact run_index_num2 a w
  · exact run_index_num3 a w
theorem run_arrayAt (g o c:Nat) (w:World):(Instr.arrayAt 24 (.slice (some ⟨g,o,none⟩) 4 c)).run Tryz.prog w=.ok (.pointer (some ⟨g,o,none⟩)) w:=by
  simp[Instr.arrayAt,go_sem,Tryz.underlying24]
set_option maxRecDepth 100000 in
theorem limbs_Mul (a b:Nat) (ha:a<B256) (hb:b<B256) (w:World) :
    Calls Tryz.prog 221 #[numV a,numV b] w fun e w'=>e=.returned (.tuple #[numV (a*b%B256),numV (a*b / B256)])∧Below w.heap.size w w':=by
  go_enter Tryz.func221,Tryz.ntmps221
  go_wp2
  generalize hW:((((w.alloc _).alloc _).alloc _).alloc _).alloc _=W
  have g6:Blk W (w.heap.size+1+1+1+1) 296 (u64s (List.replicate 8 0)):=by subst hW;exact Blk.new' (by simp)
  have g3:Blk W (w.heap.size+1) 24 (numC b):=by subst hW;exact (((Blk.new' (by simp)).alloc _).alloc _).alloc _
  have g4:∃ cs,Blk W (w.heap.size+1+1) 24 cs∧cs.length=4:=by subst hW;exact⟨_,((Blk.new' (by simp)).alloc _).alloc _,rfl⟩
  have g5:∃ cs,Blk W (w.heap.size+1+1+1) 24 cs∧cs.length=4:=by subst hW;exact⟨_,(Blk.new' (by simp)).alloc _,rfl⟩
  have hbw:Below w.heap.size w W:=by subst hW;exact (((((Ext.rfl' w).alloc' _).alloc' _).alloc' _).alloc' _).alloc' _
  clear hW
  go_loopw [13] (fun i wr=>∃ (n:Nat) (l:List Nat),n≤4∧i=.int .i64 n∧MulInv a b n 0 0 l∧Blk wr (w.heap.size+1+1+1+1) 296 (u64s l)∧Blk wr (w.heap.size+1) 24 (numC b) ∧
      (∃ cs,Blk wr (w.heap.size+1+1) 24 cs∧cs.length=4)∧(∃ cs,Blk wr (w.heap.size+1+1+1) 24 cs∧cs.length=4)∧Below w.heap.size w wr) (fun i _=>4 - (intOf i).toNat)
  case atStart=>exact⟨0,_,by omega,rfl,MulInv.start a b,g6,g3,g4,g5,hbw⟩
  case round =>
    clear g6 g3 g4 g5 hbw
    obtain⟨n,l,hn,rfl,hI,g6,g3,g4,g5,hbw⟩:=hrel
    have HI:=Lib.hid hI;clear hI
    have G4:=Lib.hid g4;have G5:=Lib.hid g5;clear g4 g5
    by_cases hlt:n<4
    · have hix:=run_index_num a hlt
      have hdec:decide ((n:Int)<4)=true:=by simp;omega
      have d0:=g3.cell_at (i:=0) rfl
      have d1:=g3.cell_at (i:=1) rfl
      have d2:=g3.cell_at (i:=2) rfl
      have d3:=g3.cell_at (i:=3) rfl
      obtain⟨wo,rfl⟩ : ∃ wo:World,wo=wr:=⟨_,rfl⟩
      go_wp2
      go_loopw [9,18] (fun m i wr=>∃ (k mm:Nat) (l2:List Nat),k≤4∧i=.int .i64 k∧m=.int .u64 (mm:Nat)∧MulInv a b n k mm l2∧Blk wr (w.heap.size+1+1+1+1) 296 (u64s l2)∧Blk wr (w.heap.size+1) 24 (numC b) ∧
        (∃ cs,Blk wr (w.heap.size+1+1) 24 cs∧cs.length=4)∧(∃ cs,Blk wr (w.heap.size+1+1+1) 24 cs∧cs.length=4)∧Below w.heap.size w wr) (fun _ i _=>4 - (intOf i).toNat)
      case atStart=>exact⟨0,0,l,by omega,rfl,rfl,HI.out,g6,g3,G4.out,G5.out,hbw⟩
      case round =>
        clear d0 d1 d2 d3 g6 g3 G4 G5 hbw HI hix hdec
        obtain⟨k,mm,l2,hk,rfl,rfl,hI,g6,g3,g4,g5,hbw⟩:=hrel
        have hmm:mm≤18446744073709551615:=by have:=hI.2.2.1;omega
        have hlen:=hI.1
        by_cases hkt:k<4
        · have hix:=run_index_num b hkt
          have hdec:decide ((k:Int)<4)=true:=by simp;omega
          have hstep:=hI.step hlt hkt
          have hc:=g6.cell_at (u64s_get (l:=l2) (j:=n+k) (by omega))
          have hf:=g6.frozen (n+k)
          have hlx:l2.getD (n+k) 0<18446744073709551616:=by
            rw[List.getD_eq_getElem?_getD,List.getElem?_eq_getElem (by omega),Option.getD_some]
            exact hI.2.1 _ (List.getElem_mem _)
          have hct:=limbs_times (wd n a) (wd k b) (l2.getD (n+k) 0) mm (wd_lt n a) (wd_lt k b) hlx (by omega)
          generalize hX:l2.getD (n+k) 0=X at *
          have HX:=Lib.hid hX;clear hX
          generalize hR:(wd n a*wd k b+X+mm)%18446744073709551616=R at *
          generalize hH:(wd n a*wd k b+X+mm) / 18446744073709551616=H at *
          have HI:=Lib.hid hI;have HS:=Lib.hid hstep;have HL:=Lib.hid hlen
          have G4:=Lib.hid g4;have G5:=Lib.hid g5;have HC:=Lib.hid hct
          clear hI hstep hlen g4 g5 hct hR hH
          go_wp2_with (go_at_call 251;refine (HC.out _).mono ?_;rintro e w1 ⟨rfl,rfl⟩)
          go_roundw
          case rel =>
            refine⟨k+1,H,l2.set (n+k) R,by omega,by go_num,rfl,HS.out,?_,g3.far (by simp) _,?_,?_,hbw.setCell (by simp;omega) _⟩
            · have:=g6.set_ (n+k) (.int .u64 ((R:Nat):Int))
              rw[u64s_set] at this
              exact this
            · obtain⟨cs,h1,h2⟩:=G4.out
              exact⟨cs,h1.far (by simp) _,h2⟩
            · obtain⟨cs,h1,h2⟩:=G5.out
              exact⟨cs,h1.far (by simp) _,h2⟩
          case measure=>simp[intOf];omega
        · obtain rfl:k=4:=by omega
          have hc:=g6.cell_at (u64s_get (l:=l2) (j:=n+4) (by omega))
          have hf:=g6.frozen (n+4)
          have hnx:=hI.next hb hlt
          have HS:=Lib.hid hnx
          have G4:=Lib.hid g4;have G5:=Lib.hid g5
          clear hI hlen g4 g5 hnx
          go_wp2
          go_roundw
          case rel =>
            refine⟨n+1,l2.set (n+4) mm,by omega,by go_num,HS.out,?_,g3.far (by simp) _,?_,?_,hbw.setCell (by simp;omega) _⟩
            · have:=g6.set_ (n+4) (.int .u64 ((mm:Nat):Int))
              rw[u64s_set] at this
              exact this
            · obtain⟨cs,h1,h2⟩:=G4.out
              exact⟨cs,h1.far (by simp) _,h2⟩
            · obtain⟨cs,h1,h2⟩:=G5.out
              exact⟨cs,h1.far (by simp) _,h2⟩
          case measure=>simp[intOf];omega
    · obtain rfl:n=4:=by omega
      have hI:=HI.out
      have hend:=mul_end hI ha
      have hlen:=hI.1
      have hbl:∀ j,j<8→l.getD j 0<18446744073709551616:=fun j hj=>by
        rw[List.getD_eq_getElem?_getD,List.getElem?_eq_getElem (by omega),Option.getD_some]
        exact hI.2.1 _ (List.getElem_mem _)
      have q:=fun j (hj:j<8)=>g6.cell_at (u64s_get (l:=l) (j:=j) (by omega))
      have e1:=numV_of (hbl 0 (by omega)) (hbl 1 (by omega)) (hbl 2 (by omega)) (hbl 3 (by omega))
      have e2:=numV_of (hbl 4 (by omega)) (hbl 5 (by omega)) (hbl 6 (by omega)) (hbl 7 (by omega))
      rw[hend.1] at e1
      rw[hend.2] at e2
      have c0:=q 0 (by omega);have c1:=q 1 (by omega);have c2:=q 2 (by omega);have c3:=q 3 (by omega)
      have c4:=q 4 (by omega);have c5:=q 5 (by omega);have c6:=q 6 (by omega);have c7:=q 7 (by omega)
      have E1:=Lib.hid e1;have E2:=Lib.hid e2
      obtain⟨cs4,k4,l4⟩:=G4.out
      obtain⟨cs5,k5,l5⟩:=G5.out
      match cs4,l4,cs5,l5 with
      | [p0,p1,p2,p3],_,[r0,r1,r2,r3],_ =>
      have a0:=k4.cell_at (i:=0) rfl;have a1:=k4.cell_at (i:=1) rfl;have a2:=k4.cell_at (i:=2) rfl;have a3:=k4.cell_at (i:=3) rfl
      have b0:=k5.cell_at (i:=0) rfl;have b1:=k5.cell_at (i:=1) rfl;have b2:=k5.cell_at (i:=2) rfl;have b3:=k5.cell_at (i:=3) rfl
      have ff4:=k4.frozen
      have ff5:=k5.frozen
      clear hend hlen hbl q e1 e2 G4 G5 HI hI
      generalize l.getD 0 0=x0 at *;generalize l.getD 1 0=x1 at *;generalize l.getD 2 0=x2 at *;generalize l.getD 3 0=x3 at *
      generalize l.getD 4 0=x4 at *;generalize l.getD 5 0=x5 at *;generalize l.getD 6 0=x6 at *;generalize l.getD 7 0=x7 at *
      have hat1:=fun w'=>run_arrayAt (w.heap.size+1+1+1+1) 0 8 w'
      have hat2:=fun w'=>run_arrayAt (w.heap.size+1+1+1+1) 4 4 w'
      go_wp2
      go_region
      go_wp2
      refine bodyPost_ret (v:=.tuple #[numV (a*b%B256),numV (a*b / B256)]) ?_ rfl ⟨rfl,?_⟩
      · rw[← E1.out,← E2.out]
        simp[results,Tryz.results221,go_sem,a0,a1,a2,a3,b0,b1,b2,b3]
      · ((repeat' (with_reducible first|exact hbw|refine Below.drew ?_|refine Below.drewN' ?_ _|refine Below.setCell ?_ ?_ _|refine Below.alloc ?_ ?_ _))<;>(first|omega|(simp;done)|(simp;omega)))
end Go.Proofs.YtiiacjladnljhaaGreatDoor
