/- Part 14 of the proof: LimS, LimC, Bits, LimD, DivA, DivB -/
import Derived.Test.YtmhligfnchegdaaGreatDoorM13
import Derived.Test.YtmhligfnchegdaaGreatDoorM07
import Derived.DeepKeys
import Derived.Lib.ItoaNum
import Derived.Laws.BitsAllLaws
set_option linter.unusedSimpArgs false
set_option linter.unusedVariables false
namespace Go.Proofs.YtmhligfnchegdaaGreatDoor
open Go.RowKit
def bw (x y c:Nat):Nat:=if x<y+c then 1 else 0
theorem run_Sub64 (x y b:Nat) (hb:b≤1) (w:World) :
    (callFunc 263 #[.int .u64 x,.int .u64 y,.int .u64 b]).run Tryz.prog w =
      .ok (.value (.tuple #[.int .u64 (((x+18446744073709551616 - y - b)%18446744073709551616:Nat):Int),.int .u64 ((bw x y b:Nat):Int)])) w:=by
  rw[run_callFunc_extern (Tryz.func263) (by kernel_rfl) (by kernel_rfl) (by kernel_rfl) (e:=sub64Entry) (by kernel_rfl),run_sub64 x y b hb]
  rfl
def br (a b:Nat):Nat→Nat
  | 0=>0
  | k+1=>bw (wd k a) (wd k b) (br a b k)
def sb (a b k:Nat):Nat:=(wd k a+18446744073709551616 - wd k b - br a b k)%18446744073709551616
theorem br_le (a b k:Nat):br a b k≤1:=by
  cases k with
  | zero=>exact Nat.zero_le _
  | succ k=>simp only[br,bw];split<;>omega
theorem sub_step (x y c:Nat) (hx:x<18446744073709551616) (hy:y<18446744073709551616) (hc:c≤1) :
    (x+18446744073709551616 - y - c)%18446744073709551616+y+c=x+18446744073709551616*(if x<y+c then 1 else 0)∧(x+18446744073709551616 - y - c)%18446744073709551616<18446744073709551616∧(if x<y+c then 1 else 0:Nat)≤1:=by
  split<;>omega
theorem sub_end (S A B M c:Nat) (hS:S<M) (hA:A<M) (hB:B<M) (hc:c≤1) (h:S+B=A+M*c):S=(A+M - B)%M∧c=if A<B then 1 else 0:=by
  have:c=0∨c=1:=by omega
  rcases this with rfl|rfl
  · rw[show A+M - B=S+M by omega,Nat.add_mod_right,Nat.mod_eq_of_lt hS,if_neg (by omega)]
    exact⟨rfl,rfl⟩
  · rw[show A+M - B=S by omega,Nat.mod_eq_of_lt hS,if_pos (by omega)]
    exact⟨rfl,rfl⟩
theorem sub_words (a b:Nat) (ha:a<B256) (hb:b<B256) (s0 s1 s2 s3 c1 c2 c3 c4:Nat)
    (e0:s0=(wd 0 a+18446744073709551616 - wd 0 b - 0)%18446744073709551616) (f0:c1=if wd 0 a<wd 0 b+0 then 1 else 0)
    (e1:s1=(wd 1 a+18446744073709551616 - wd 1 b - c1)%18446744073709551616) (f1:c2=if wd 1 a<wd 1 b+c1 then 1 else 0)
    (e2:s2=(wd 2 a+18446744073709551616 - wd 2 b - c2)%18446744073709551616) (f2:c3=if wd 2 a<wd 2 b+c2 then 1 else 0)
    (e3:s3=(wd 3 a+18446744073709551616 - wd 3 b - c3)%18446744073709551616) (f3:c4=if wd 3 a<wd 3 b+c3 then 1 else 0) :
    val4 s0 s1 s2 s3=(a+B256 - b)%B256∧c4=bw a b 0:=by
  have h1:=val4_wd ha
  have h2:=val4_wd hb
  have:=wd_lt 0 a;have:=wd_lt 1 a;have:=wd_lt 2 a;have:=wd_lt 3 a
  have:=wd_lt 0 b;have:=wd_lt 1 b;have:=wd_lt 2 b;have:=wd_lt 3 b
  generalize wd 0 a=a0 at *;generalize wd 1 a=a1 at *;generalize wd 2 a=a2 at *;generalize wd 3 a=a3 at *
  generalize wd 0 b=b0 at *;generalize wd 1 b=b1 at *;generalize wd 2 b=b2 at *;generalize wd 3 b=b3 at *
  obtain⟨g0,l0,m0⟩:=sub_step a0 b0 0 (by omega) (by omega) (by omega)
  rw[← e0,← f0] at g0;rw[← e0] at l0;rw[← f0] at m0
  obtain⟨g1,l1,m1⟩:=sub_step a1 b1 c1 (by omega) (by omega) (by omega)
  rw[← e1,← f1] at g1;rw[← e1] at l1;rw[← f1] at m1
  obtain⟨g2,l2,m2⟩:=sub_step a2 b2 c2 (by omega) (by omega) (by omega)
  rw[← e2,← f2] at g2;rw[← e2] at l2;rw[← f2] at m2
  obtain⟨g3,l3,m3⟩:=sub_step a3 b3 c3 (by omega) (by omega) (by omega)
  rw[← e3,← f3] at g3;rw[← e3] at l3;rw[← f3] at m3
  have key:val4 s0 s1 s2 s3+b=a+B256*c4:=by
    rw[← h1,← h2]
    clear e0 e1 e2 e3 f0 f1 f2 f3 h1 h2 ha hb l0 l1 l2 l3 m0 m1 m2 m3
    simp only[val4,B256]
    omega
  have hs:=val4_lt l0 l1 l2 l3
  clear e0 e1 e2 e3 f0 f1 f2 f3 h1 h2 g0 g1 g2 g3 l0 l1 l2 l3 m0 m1 m2
  simp only[bw,Nat.add_zero]
  exact sub_end _ _ _ _ _ hs ha hb m3 key
def subC (a b k:Nat):List Value:=[if 0<k then .int .u64 (sb a b 0:Nat) else .int .u64 0,if 1<k then .int .u64 (sb a b 1:Nat) else .int .u64 0,if 2<k then .int .u64 (sb a b 2:Nat) else .int .u64 0,if 3<k then .int .u64 (sb a b 3:Nat) else .int .u64 0]
theorem subC_get (a b:Nat) {k:Nat} (h:k<4):(subC a b k)[k]?=some (.int .u64 0):=by
  have:k=0∨k=1∨k=2∨k=3:=by omega
  rcases this with rfl|rfl|rfl|rfl<;>rfl
theorem subC_set (a b:Nat) {k:Nat} (h:k<4):(subC a b k).set k (.int .u64 (sb a b k:Nat))=subC a b (k+1):=by
  have:k=0∨k=1∨k=2∨k=3:=by omega
  rcases this with rfl|rfl|rfl|rfl<;>rfl
set_option maxRecDepth 100000 in
theorem limbs_Sub (a b:Nat) (ha:a<B256) (hbb:b<B256) (w:World) :
    Calls Tryz.prog 231 #[numV a,numV b] w fun e w'=>e=.returned (.tuple #[numV ((a+B256 - b)%B256),.int .u64 ((bw a b 0:Nat):Int)])∧Below w.heap.size w w':=by
  have hA:=run_Sub64
  go_enter Tryz.func231,Tryz.ntmps231
  go_wp2
  generalize hW:((w.alloc _).alloc _).alloc _=W
  have hg0:Blk W w.heap.size 24 (numC a):=by subst hW;exact ((Blk.new _ _ _).alloc _).alloc _
  have hg1:Blk W (w.heap.size+1) 24 (numC b):=by subst hW;exact (Blk.new' (by simp)).alloc _
  have hg2:Blk W (w.heap.size+1+1) 24 (subC a b 0):=by subst hW;exact Blk.new' (by simp)
  have hb:Below w.heap.size w W:=by subst hW;exact (((Below.refl _ _).alloc (Nat.le_refl _) _).alloc (by simp) _).alloc (by simp;omega) _
  clear hW
  go_loopw [5,7] (fun c i wr=>∃ k:Nat,k≤4∧i=.int .i64 k∧c=.int .u64 (br a b k:Nat)∧Blk wr w.heap.size 24 (numC a)∧Blk wr (w.heap.size+1) 24 (numC b)∧Blk wr (w.heap.size+1+1) 24 (subC a b k)∧Below w.heap.size w wr) (fun _ i _=>4 - (intOf i).toNat)
  case atStart=>exact⟨0,by omega,rfl,rfl,hg0,hg1,hg2,hb⟩
  case round =>
    clear hg0 hg1 hg2 hb
    obtain⟨k,hk,rfl,rfl,hg0,hg1,hg2,hb⟩:=hrel
    have hc:=br_le a b k
    by_cases hlt:k<4
    · have c0:=hg0.cell_at (numC_get a hlt)
      have c1:=hg1.cell_at (numC_get b hlt)
      have c2:=hg2.cell_at (subC_get a b hlt)
      have f2:=hg2.frozen k
      go_wp2
      have lt0:=hg0.lt
      have lt1:=hg1.lt
      have lt2:=hg2.lt
      refine Kp.wp_region_kpf [11] 13 (by kernel_rfl) (by kernel_rfl) (fun L Fin hL hFin=>?_)
      have HL:=Lib.hid hL;clear hL
      have HF:=Lib.hid hFin;clear hFin
      simp only[List.take_succ_cons,List.take_zero,List.drop_succ_cons,List.drop_zero]
      apply Exists.intro
      repeat ((first|(apply Kp.kp_free;(first|rfl|(rw[HL.out];rfl));(intro w1;go_simp;rfl))|(apply Kp.kp_now;rfl;(first|rfl|(rw[HL.out];rfl));(intro w1 hb1;obtain⟨hcw,hfw⟩:=bcell hb1;clear hb1;go_simp;rfl)));simp only[Act.put,List.setIfInBounds_toArray,List.set_cons_succ,List.set_cons_zero])
      apply Kp.kp_nil
      refine HF.out _ _ (fun w1 hb1 _=>?_)
      clear HL HF
      simp only[List.drop_succ_cons,List.drop_zero]
      have c3:=(hg2.below hb1 lt2).cell_at (subC_get a b hlt)
      have f3:=(hg2.below hb1 lt2).frozen k
      go_wp2
      refine NoPanic.normal ?_
      go_wp2
      go_roundw
      case rel =>
        refine⟨k+1,by omega,by go_num,?_,(hg0.below hb1 lt0).far (by simp;omega) _,(hg1.below hb1 lt1).far (by simp) _,?_,(hb.trans (hb1.mono hb.size)).setCell (by simp;omega) _⟩
        · simp[br]
        · rw[← subC_set a b hlt]
          exact (hg2.below hb1 lt2).set_ k _
      case measure=>simp[intOf];omega
    · obtain rfl:k=4:=by omega
      have d0:wr.cell? ⟨w.heap.size+1+1,0,none⟩=some (.int .u64 ((sb a b 0:Nat):Int)):=hg2.cell_at rfl
      have d1:wr.cell? ⟨w.heap.size+1+1,1,none⟩=some (.int .u64 ((sb a b 1:Nat):Int)):=hg2.cell_at rfl
      have d2:wr.cell? ⟨w.heap.size+1+1,2,none⟩=some (.int .u64 ((sb a b 2:Nat):Int)):=hg2.cell_at rfl
      have d3:wr.cell? ⟨w.heap.size+1+1,3,none⟩=some (.int .u64 ((sb a b 3:Nat):Int)):=hg2.cell_at rfl
      have ff:=hg2.frozen
      clear hA
      go_wp2
      have hs:=sub_words a b ha hbb (sb a b 0) (sb a b 1) (sb a b 2) (sb a b 3) (br a b 1) (br a b 2) (br a b 3) (br a b 4) rfl rfl rfl rfl rfl rfl rfl rfl
      have hlt:=fun i=>Nat.mod_lt (wd i a+18446744073709551616 - wd i b - br a b i) (show 0<18446744073709551616 by omega)
      have hv:=numV_of (hlt 0) (hlt 1) (hlt 2) (hlt 3)
      have ev:Value.agg #[.int .u64 ((sb a b 0:Nat):Int),.int .u64 ((sb a b 1:Nat):Int),.int .u64 ((sb a b 2:Nat):Int),.int .u64 ((sb a b 3:Nat):Int)]=numV ((a+B256 - b)%B256):=by rw[← hs.1];exact hv
      refine bodyPost_ret (v:=.tuple #[numV ((a+B256 - b)%B256),.int .u64 ((bw a b 0:Nat):Int)]) ?_ rfl ⟨rfl,?_⟩
      · rw[← ev,← hs.2]
        simp[results,Tryz.results231,go_sem,d0,d1,d2,d3]
      · refine ((((hb.setCell ?_ _).setCell ?_ _).setCell ?_ _).setCell ?_ _)<;>(simp;omega)
end Go.Proofs.YtmhligfnchegdaaGreatDoor
namespace Go.Proofs.YtmhligfnchegdaaGreatDoor
open Go.RowKit
theorem B64_lt (n:Nat) (h:n<18446744073709551616):n<B256:=by unfold B256;omega
theorem numV_small (n:Nat) (h:n<18446744073709551616):Value.agg #[.int .u64 (n:Int),.int .u64 0,.int .u64 0,.int .u64 0]=numV n:=by
  have:=numV_of h (by omega:0<18446744073709551616) (by omega:0<18446744073709551616) (by omega:0<18446744073709551616)
  simpa [val4] using this
theorem limbs_Of (n:Nat) (h:n<18446744073709551616) (w:World) :
    Calls Tryz.prog 189 #[.int .u64 (n:Int)] w fun e w'=>e=.returned (numV n)∧Below w.heap.size w w':=by
  go_enter Tryz.func189,Tryz.ntmps189
  go_wp2
  refine bodyPost_ret (v:=numV n) ?_ rfl ⟨rfl,?_⟩
  · rw[← numV_small n h]
    simp[results,Tryz.results189,go_sem]
  · exact (Below.refl _ _).alloc (Nat.le_refl _) _
def eqN (a b:Nat):Bool:=decide (a=b)
theorem key_word (n:Nat) (h:n<18446744073709551616):Tryz.prog.keyLits 1 22 [.int .u64 (n:Int)]=some [.int .u64 (n:Int)]:=by
  have hw:(Lit.int .u64 (n:Int)).wf=true:=by
    simp[Lit.wf,IntKind.min,IntKind.max,IntKind.signed,IntKind.bits];omega
  simp[Program.keyLits,Tryz.underlying22,hw]
theorem key_num (a:Nat):Tryz.prog.keyLits 2 24 (numC a)=some [.int .u64 ((wd 0 a:Nat):Int),.int .u64 ((wd 1 a:Nat):Int),.int .u64 ((wd 2 a:Nat):Int),.int .u64 ((wd 3 a:Nat):Int)]:=by
  have c1:Tryz.prog.cellsOf 24=4:=by kernel_rfl
  have c2:Tryz.prog.cellsOf 22=1:=by kernel_rfl
  have k:=fun i=>key_word (wd i a) (wd_lt i a)
  have r:List.range 4=[0,1,2,3]:=rfl
  unfold Program.keyLits
  simp[Tryz.underlying24,c1,c2,r,k]
theorem run_eq_num {a b:Nat} (ha:a<B256) (hb:b<B256) (w:World) :
    (binOp .eql 24 (numV a) (numV b)).run Tryz.prog w=.ok (.bool (eqN a b)) w:=by
  obtain⟨r,hr,hiff⟩:=run_equalIn_deep (P:=Tryz.prog) 9998 2 24 (by kernel_rfl) w 2 2 (numV a) (numV b)
    [.int .u64 ((wd 0 a:Nat):Int),.int .u64 ((wd 1 a:Nat):Int),.int .u64 ((wd 2 a:Nat):Int),.int .u64 ((wd 3 a:Nat):Int)]
    [.int .u64 ((wd 0 b:Nat):Int),.int .u64 ((wd 1 b:Nat):Int),.int .u64 ((wd 2 b:Nat):Int),.int .u64 ((wd 3 b:Nat):Int)]
    (by kernel_rfl) (by kernel_rfl) (key_num a) (key_num b)
  have e:r=eqN a b:=by
    unfold eqN
    rw[Bool.eq_iff_iff,hiff]
    simp only[decide_eq_true_eq,List.cons.injEq,Lit.int.injEq,true_and,and_true,Int.ofNat_inj]
    constructor
    · rintro ⟨h0,h1,h2,h3⟩;exact wd_inj ha hb h0 h1 h2 h3
    · rintro rfl;exact⟨rfl,rfl,rfl,rfl⟩
  subst e
  simp only[run_eql_struct,hr,Result.andThen]
theorem run_eqin_num {a b:Nat} (ha:a<B256) (hb:b<B256) (w:World) :
    (Op.equalIn 10000 24 (numV a) (numV b)).run Tryz.prog w=.ok (eqN a b) w:=by
  have:=run_eq_num ha hb w
  rw[run_eql_struct] at this
  cases h:(Op.equalIn 10000 24 (numV a) (numV b)).run Tryz.prog w with
  | ok r w'=>rw[h] at this;simp only[Result.andThen,Result.ok.injEq,Value.bool.injEq] at this;rw[this.1,this.2]
  | halt h' w'=>rw[h] at this;simp[Result.andThen] at this
attribute [local go_sem] run_eqin_num
theorem eqN_yes {a b:Nat} (h:a=b):eqN a b=true:=by simp[eqN,h]
theorem eqN_no {a b:Nat} (h:a≠b):eqN a b=false:=by simp[eqN,h]
def cmpN (a b:Nat):Int:=if a=b then 0 else if a<b then -1 else 1
theorem limbs_Cmp (a b:Nat) (ha:a<B256) (hb:b<B256) (w:World) :
    Calls Tryz.prog 188 #[numV a,numV b] w fun e w'=>e=.returned (.int .i64 (cmpN a b))∧Below w.heap.size w w':=by
  by_cases hab:a=b
  · have he:=eqN_yes hab
    have hc:cmpN a b=0:=by simp[cmpN,hab]
    clear hab
    go_enter Tryz.func188,Tryz.ntmps188
    go_wp2
    go_ret
    exact⟨by simp[hc],((Ext.rfl' w).alloc' _).alloc' _⟩
  · have he:=eqN_no hab
    by_cases hlt:a<b
    · have hc:cmpN a b = -1:=by simp[cmpN,hab,hlt]
      have hbw:bw a b 0=1:=by simp[bw,hlt]
      clear hab
      go_enter Tryz.func188,Tryz.ntmps188
      go_wp2_with (go_at_call 231;refine (limbs_Sub a b ha hb _).mono ?_;rintro e w1 ⟨rfl,hb1⟩)
      go_ret
      exact⟨by simp[hc],(((((Ext.rfl' w).alloc' _).alloc' _).trans' hb1).alloc' _)⟩
    · have hc:cmpN a b=1:=by simp[cmpN,hab,hlt]
      have hbw:bw a b 0=0:=by simp[bw,hlt]
      clear hab
      go_enter Tryz.func188,Tryz.ntmps188
      go_wp2_with (go_at_call 231;refine (limbs_Sub a b ha hb _).mono ?_;rintro e w1 ⟨rfl,hb1⟩)
      go_ret
      exact⟨by simp[hc],(((((Ext.rfl' w).alloc' _).alloc' _).trans' hb1).alloc' _)⟩
end Go.Proofs.YtmhligfnchegdaaGreatDoor
namespace Go.Proofs.YtmhligfnchegdaaGreatDoor
def bitsN (a:Nat):Nat:=if a=0 then 0 else a.log2+1
theorem bitsN_zero:bitsN 0=0:=rfl
theorem bitsN_unique {x k:Nat} (hk:1≤k) (h1:2 ^ (k - 1)≤x) (h2:x<2 ^ k):bitsN x=k:=by
  have hx:x≠0:=by have:=Nat.two_pow_pos (k - 1);omega
  unfold bitsN
  rw[if_neg hx]
  have a:=(Nat.log2_lt hx).2 h2
  have b:=(Nat.le_log2 hx).2 h1
  omega
theorem bitsN_bounds {x:Nat} (hx:x≠0):1≤bitsN x∧2 ^ (bitsN x - 1)≤x∧x<2 ^ bitsN x:=by
  unfold bitsN
  rw[if_neg hx]
  exact⟨by omega,by simpa using Nat.log2_self_le hx,Nat.lt_log2_self⟩
theorem lt_bitsN (x:Nat):x<2 ^ bitsN x:=by
  by_cases hx:x=0
  · subst hx;simp[bitsN]
  · exact (bitsN_bounds hx).2.2
theorem bitsN_le {x k:Nat} (h:x<2 ^ k):bitsN x≤k:=by
  by_cases hx:x=0
  · subst hx;simp[bitsN]
  · unfold bitsN
    rw[if_neg hx]
    have:=(Nat.log2_lt hx).2 h
    omega
theorem bitsN_le_iff {x k:Nat}:bitsN x≤k↔x<2 ^ k :=
  ⟨fun h=>Nat.lt_of_lt_of_le (lt_bitsN x) (Nat.pow_le_pow_right (by omega) h),bitsN_le⟩
theorem bitLen_eq {x:Nat} (h:x<18446744073709551616):Lib.bitLen x=bitsN x:=by
  by_cases hx:x=0
  · subst hx;rfl
  · obtain⟨h1,h2,h3⟩:=Lib.bitLenAux_bounds 64 x h hx
    exact (bitsN_unique h1 h2 h3).symm
theorem bitsN_shift {x lo s:Nat} (hx:x≠0) (hl:lo<2 ^ s):bitsN (lo+2 ^ s*x)=s+bitsN x:=by
  obtain⟨h1,h2,h3⟩:=bitsN_bounds hx
  refine bitsN_unique (by omega) ?_ ?_
  · rw[show s+bitsN x - 1=s+(bitsN x - 1) by omega,Nat.pow_add]
    have:=Nat.mul_le_mul_left (2 ^ s) h2
    omega
  · rw[Nat.pow_add]
    have:=Nat.mul_le_mul_left (2 ^ s) h3
    rw[Nat.mul_succ] at this
    omega
theorem bits_words {a:Nat} (ha:a<B256) {i:Nat} (hi:i<4) (hz:∀ j,i<j→j<4→wd j a=0) (hx:wd i a≠0):bitsN a=64*i+bitsN (wd i a):=by
  have hv:=val4_wd ha
  have l0:=wd_lt 0 a;have l1:=wd_lt 1 a;have l2:=wd_lt 2 a
  have:i=0∨i=1∨i=2∨i=3:=by omega
  rcases this with rfl|rfl|rfl|rfl
  · have z1:=hz 1 (by omega) (by omega);have z2:=hz 2 (by omega) (by omega);have z3:=hz 3 (by omega) (by omega)
    rw[z1,z2,z3] at hv
    have e:wd 0 a=a:=by simp only[val4] at hv;omega
    rw[e];omega
  · have z2:=hz 2 (by omega) (by omega);have z3:=hz 3 (by omega) (by omega)
    rw[z2,z3] at hv
    have e:a=wd 0 a+2 ^ 64*wd 1 a:=by simp only[val4] at hv;omega
    have:=bitsN_shift (s:=64) hx (show wd 0 a<2 ^ 64 by omega)
    rw[← e] at this
    omega
  · have z3:=hz 3 (by omega) (by omega)
    rw[z3] at hv
    have e:a=(wd 0 a+18446744073709551616*wd 1 a)+2 ^ 128*wd 2 a:=by simp only[val4] at hv;omega
    have:=bitsN_shift (s:=128) hx (show wd 0 a+18446744073709551616*wd 1 a<2 ^ 128 by omega)
    rw[← e] at this
    omega
  · have e:a=(wd 0 a+18446744073709551616*wd 1 a+340282366920938463463374607431768211456*wd 2 a)+2 ^ 192*wd 3 a:=by simp only[val4] at hv;omega
    have:=bitsN_shift (s:=192) hx (show wd 0 a+18446744073709551616*wd 1 a+340282366920938463463374607431768211456*wd 2 a<2 ^ 192 by omega)
    rw[← e] at this
    omega
theorem bits_none {a:Nat} (ha:a<B256) (hz:∀ j,j<4→wd j a=0):a=0:=by
  have hv:=val4_wd ha
  rw[hz 0 (by omega),hz 1 (by omega),hz 2 (by omega),hz 3 (by omega)] at hv
  simp[val4] at hv
  omega
def bitN (a i:Nat):Nat:=a / 2 ^ i%2
theorem bitN_le (a i:Nat):bitN a i≤1:=by unfold bitN;omega
theorem bit_word {a:Nat} (ha:a<B256) (i r:Nat) (hi:i<4) (hr:r<64):wd i a / 2 ^ r%2=bitN a (64*i+r):=by
  unfold bitN
  rw[Nat.pow_add,← Nat.div_div_eq_div_mul]
  have:i=0∨i=1∨i=2∨i=3:=by omega
  have gen:∀ n:Nat,n%18446744073709551616 / 2 ^ r%2=n / 2 ^ r%2:=by
    intro n
    have e:(18446744073709551616:Nat)=2 ^ r*(2*2 ^ (63 - r)):=by
      rw[← Nat.pow_succ',← Nat.pow_add,show r+(63 - r+1)=64 by omega]
    rw[e,Nat.mod_mul_right_div_self,Nat.mod_mul_right_mod]
  rcases this with rfl|rfl|rfl|rfl<;>simp only[wd,gen]<;>simp
theorem bitN_high {a:Nat} (ha:a<B256) {i:Nat} (hi:256≤i):bitN a i=0:=by
  unfold bitN
  have:a / 2 ^ i=0:=Nat.div_eq_of_lt (Nat.lt_of_lt_of_le (show a<2 ^ 256 by unfold B256 at ha;omega) (Nat.pow_le_pow_right (by omega) hi))
  rw[this]
end Go.Proofs.YtmhligfnchegdaaGreatDoor
namespace Go.Proofs.YtmhligfnchegdaaGreatDoor
open Go.RowKit
theorem zero_up {a k:Nat} (hx:wd k a=0) (hz:∀ j,k<j→j<4→wd j a=0) (j:Nat) (h1:k≤j) (h2:j<4):wd j a=0:=by
  rcases Nat.lt_or_eq_of_le h1 with h|h
  · exact hz j h h2
  · subst h;exact hx
theorem limbs_Bits (a:Nat) (ha:a<B256) (w:World) :
    Calls Tryz.prog 191 #[numV a] w fun e w'=>e=.returned (.int .i64 (bitsN a:Nat))∧Below w.heap.size w w':=by
  go_enter Tryz.func191,Tryz.ntmps191
  go_wp2
  generalize hW:w.alloc _=W
  have hg0:Blk W w.heap.size 24 (numC a):=by subst hW;exact Blk.new _ _ _
  have hb:Below w.heap.size w W:=by subst hW;exact (Ext.rfl' w).alloc' _
  clear hW
  go_loop [3] (fun i=>(i=.int .i64 (-1)∧∀ j,j<4→wd j a=0)∨∃ k:Nat,k<4∧i=.int .i64 k∧∀ j,k<j→j<4→wd j a=0) (fun i=>(intOf i+1).toNat)
  case atStart=>exact .inr ⟨3,by omega,rfl,fun j h1 h2=>by omega⟩
  case round =>
    rcases hrel with ⟨rfl,hz⟩|⟨k,hk,rfl,hz⟩
    · have hres:=bits_none ha hz
      subst hres
      clear hz
      go_wp2
      go_ret
      exact⟨by simp[bitsN],hb⟩
    · have c0:=hg0.cell_at (numC_get a hk)
      by_cases hx:wd k a=0
      · have Hz:=Lib.hid hz;clear hz
        go_wp2
        go_round
        case rel =>
          by_cases h0:k=0
          · subst h0
            exact .inl ⟨rfl,fun j hj=>zero_up hx Hz.out j (by omega) hj⟩
          · exact .inr ⟨k - 1,by omega,by rw[show ((k - 1:Nat):Int)=(k:Int) - 1 by omega],fun j h1 h2=>zero_up hx Hz.out j (by omega) h2⟩
        case measure=>first|(simp[intOf];done)|(simp[intOf];omega)
      · have hres:=bits_words ha hk hz hx
        have Hr:=Lib.hid hres;clear hres hz
        have hpos:0<wd k a:=by omega
        have hle:=wd_le k a
        have hlb:=bitsN_le (k:=64) (wd_lt k a)
        have hbl:=bitLen_eq (wd_lt k a)
        go_wp2_with (go_at_call 229;refine (Tryz.bits_Len64 _ _ (by omega) (by omega)).mono ?_;rintro e w1 ⟨rfl,rfl⟩)
        go_ret
        refine⟨?_,hb⟩
        rw[Hr.out]
        exact congrArg (fun z:Int=>Ending.returned (.int .i64 z)) (by simp)
theorem and_one (n:Nat) (h:n<18446744073709551616):bits .and .u64 (n:Int) 1=((n%2:Nat):Int):=by
  have:=u64_and_nat n 1 h (by omega)
  rw[nat_mask1] at this
  exact this
theorem limbs_Bit (a:Nat) (i:Int) (ha:a<B256) (hi0:0≤i) (hi1:i≤1000000) (w:World) :
    Calls Tryz.prog 232 #[numV a,.int .i64 i] w fun e w'=>e=.returned (.int .u64 (bitN a i.toNat:Nat))∧Below w.heap.size w w':=by
  obtain⟨n,rfl⟩:=Int.eq_ofNat_of_zero_le hi0
  rw[Int.toNat_natCast]
  by_cases h:n<256
  · have hq:n / 64<4:=by omega
    have hb:=bit_word ha (n / 64) (n%64) hq (Nat.mod_lt _ (by omega))
    rw[show 64*(n / 64)+n%64=n by omega] at hb
    have hw:=wd_lt (n / 64) a
    have hw2:wd (n / 64) a / 2 ^ (n%64)<18446744073709551616:=Nat.lt_of_le_of_lt (Nat.div_le_self _ _) hw
    have ho:=and_one _ hw2
    have Hb:=Lib.hid hb;clear hb
    have c0:=(Blk.new w 24 (numC a)).cell_at (numC_get a hq)
    have hd1:decide ((n:Int)<0)=false:=by simp
    have hd2:decide (256≤(n:Int))=false:=by simp;omega
    go_enter Tryz.func232,Tryz.ntmps232
    go_wp2
    go_ret
    refine⟨congrArg (fun z:Int=>Ending.returned (.int .u64 z)) ?_,(Ext.rfl' w).alloc' _⟩
    show bits .and .u64 ((wd (n / 64) a:Nat) / 2 ^ (n%64):Int) 1=_
    rw[show ((wd (n / 64) a:Nat) / 2 ^ (n%64):Int)=((wd (n / 64) a / 2 ^ (n%64):Nat):Int) by simp,ho,Hb.out]
  · have hb:=bitN_high ha (i:=n) (by omega)
    have hd1:decide ((n:Int)<0)=false:=by simp
    have hd2:decide (256≤(n:Int))=true:=by simp;omega
    go_enter Tryz.func232,Tryz.ntmps232
    go_wp2
    go_ret
    exact⟨by simp[hb],(Ext.rfl' w).alloc' _⟩
theorem times_words (a b c d:Nat) (ha:a<18446744073709551616) (hb:b<18446744073709551616) (hc:c<18446744073709551616) (hd:d<18446744073709551616) :
    a*b / 18446744073709551616≤18446744073709551614∧a*b%18446744073709551616<18446744073709551616 ∧
    (a*b%18446744073709551616+c) / 18446744073709551616≤1∧((a*b%18446744073709551616+c)%18446744073709551616+d) / 18446744073709551616≤1 ∧
    a*b / 18446744073709551616+(a*b%18446744073709551616+c) / 18446744073709551616+((a*b%18446744073709551616+c)%18446744073709551616+d) / 18446744073709551616≤18446744073709551615 ∧
    (a*b+c+d)%18446744073709551616=((a*b%18446744073709551616+c)%18446744073709551616+d)%18446744073709551616 ∧
    (a*b+c+d) / 18446744073709551616=a*b / 18446744073709551616+(a*b%18446744073709551616+c) / 18446744073709551616+((a*b%18446744073709551616+c)%18446744073709551616+d) / 18446744073709551616:=by
  have hm:a*b≤18446744073709551615*18446744073709551615:=Nat.mul_le_mul (by omega) (by omega)
  generalize a*b=p at *
  omega
theorem limbs_times (a b c d:Nat) (ha:a<18446744073709551616) (hb:b<18446744073709551616) (hc:c<18446744073709551616) (hd:d<18446744073709551616) (w:World) :
    Calls Tryz.prog 265 #[.int .u64 (a:Int),.int .u64 (b:Int),.int .u64 (c:Int),.int .u64 (d:Int)] w fun e w' =>
      e=.returned (.tuple #[.int .u64 (((a*b+c+d)%18446744073709551616:Nat):Int),.int .u64 (((a*b+c+d) / 18446744073709551616:Nat):Int)])∧w=w':=by
  have hA0:∀ (x y:Nat) (w:World),(callFunc 268 #[.int .u64 x,.int .u64 y,.int .u64 0]).run Tryz.prog w =
      .ok (.value (.tuple #[.int .u64 (((x+y)%18446744073709551616:Nat):Int),.int .u64 (((x+y) / 18446744073709551616:Nat):Int)])) w:=fun x y w=>run_Add64 x y 0 (by omega) w
  have hM:=Tryz.bits_Mul64 a b ha hb
  obtain⟨h1,h2,h3,h4,h5,e1,e2⟩:=times_words a b c d ha hb hc hd
  rw[e1,e2]
  clear e1 e2
  generalize a*b / 18446744073709551616=H at *
  generalize a*b%18446744073709551616=L at *
  have A1:=hA0 L c
  generalize (L+c)%18446744073709551616=S1 at *
  generalize (L+c) / 18446744073709551616=C1 at *
  have A2:=hA0 S1 d
  generalize (S1+d)%18446744073709551616=S2 at *
  generalize (S1+d) / 18446744073709551616=C2 at *
  clear hA0
  have HM:=Lib.hid hM;clear hM
  go_enter Tryz.func265,Tryz.ntmps265
  go_wp2_with (go_at_call 233;refine (HM.out _).mono ?_;rintro e w1 ⟨rfl,rfl⟩)
  go_ret2
  exact⟨by simp,rfl⟩
end Go.Proofs.YtmhligfnchegdaaGreatDoor
namespace Go.Proofs.YtmhligfnchegdaaGreatDoor
open Go.RowKit
def shortN (a:Nat):Bool:=decide (a<18446744073709551616)
theorem short_bits (a:Nat):decide (((bitsN a:Nat):Int)≤64)=shortN a:=by
  unfold shortN
  have:=bitsN_le_iff (x:=a) (k:=64)
  rw[show (2:Nat) ^ 64=18446744073709551616 by decide] at this
  by_cases h:a<18446744073709551616<;>simp[h]<;>omega
theorem divides_short (a:Nat) (ha:a<B256) (w:World) :
    Calls Tryz.prog 241 #[numV a] w fun e w'=>e=.returned (.bool (shortN a))∧Below w.heap.size w w':=by
  have hs:=short_bits a
  go_enter Tryz.func241,Tryz.ntmps241
  go_wp2_with (go_at_call 191;refine (limbs_Bits a ha _).mono ?_;rintro e w1 ⟨rfl,hb1⟩)
  go_ret
  exact⟨by simp,((Ext.rfl' w).alloc' _).trans' hb1⟩
abbrev zeroC:List Value:=[.int .u64 0,.int .u64 0,.int .u64 0,.int .u64 0]
theorem or_bit (r b:Nat) (hr:r<B256) (hb:b≤1) :
    bits .or .u64 ((wd 0 ((r+r)%B256):Nat):Int) (b:Int)=((wd 0 ((r+r)%B256+b):Nat):Int) ∧
    wd 1 ((r+r)%B256)=wd 1 ((r+r)%B256+b)∧wd 2 ((r+r)%B256)=wd 2 ((r+r)%B256+b)∧wd 3 ((r+r)%B256)=wd 3 ((r+r)%B256+b)∧(r+r)%B256+b<B256:=by
  have hev:∃ k,(r+r)%B256=2*k∧2*k+b<B256:=by
    refine⟨r%57896044618658097711785492504343953926634992332820282019728792003956564819968,?_,?_⟩
    · rw[← Nat.two_mul,show B256=2*57896044618658097711785492504343953926634992332820282019728792003956564819968 by decide,Nat.mul_mod_mul_left]
    · have:=Nat.mod_lt r (show 0<57896044618658097711785492504343953926634992332820282019728792003956564819968 by omega)
      have h:2*(r%57896044618658097711785492504343953926634992332820282019728792003956564819968)+b<115792089237316195423570985008687907853269984665640564039457584007913129639936:=by omega
      exact h
  obtain⟨k,hk,hlt⟩:=hev
  rw[hk]
  have hev2:∃ j,wd 0 (2*k)=2*j∧wd 0 (2*k+b)=2*j+b:=⟨wd 0 (2*k) / 2,by simp only[wd];omega,by simp only[wd];omega⟩
  obtain⟨j,hj,hj2⟩:=hev2
  have hjl:=wd_lt 0 (2*k)
  refine⟨?_,?_,?_,?_,hlt⟩
  · rw[u64_or_nat _ _ (wd_lt _ _) (by omega),hj,hj2]
    have:=Nat.two_pow_add_eq_or_of_lt (i:=1) (b:=b) (by omega) j
    rw[← this]
  all_goals (simp only[wd];omega)
def remN (r b m:Nat):Nat:=(r+r+b)%m
def quoN (r b m:Nat):Nat:=(r+r+b) / m
theorem next_no {r b m:Nat} (hr:r<m) (hm:m<B256) (hb:b≤1) (h:r+r+b<m) :
    (r+r) / B256=0∧bw ((r+r)%B256+b) m 0=1∧remN r b m=(r+r)%B256+b∧quoN r b m=0:=by
  have e:(r+r)%B256=r+r:=Nat.mod_eq_of_lt (by omega)
  refine⟨Nat.div_eq_of_lt (by omega),?_,?_,Nat.div_eq_of_lt h⟩
  · rw[e];simp[bw];omega
  · rw[e];exact Nat.mod_eq_of_lt h
theorem next_yes {r b m:Nat} (hr:r<m) (hm:m<B256) (hb:b≤1) (h:m≤r+r+b) :
    ((r+r) / B256=1∨((r+r) / B256=0∧bw ((r+r)%B256+b) m 0=0))∧remN r b m=((r+r)%B256+b+B256 - m)%B256∧quoN r b m=1:=by
  have hq:quoN r b m=1:=by
    unfold quoN
    rw[Nat.div_eq_iff (by omega)];omega
  have hrm:remN r b m=r+r+b - m:=by
    unfold remN
    rw[Nat.mod_eq_sub_mod h,Nat.mod_eq_of_lt (by omega)]
  rw[hrm,hq]
  by_cases hc:r+r<B256
  · have e:(r+r)%B256=r+r:=Nat.mod_eq_of_lt hc
    refine⟨.inr ⟨Nat.div_eq_of_lt hc,by rw[e];simp[bw];omega⟩,?_,rfl⟩
    rw[e,show r+r+b+B256 - m=(r+r+b - m)+B256 by omega,Nat.add_mod_right,Nat.mod_eq_of_lt (by omega)]
  · have e:(r+r)%B256=r+r - B256:=by rw[Nat.mod_eq_sub_mod (by omega),Nat.mod_eq_of_lt (by omega)]
    refine⟨.inl ?_,?_,rfl⟩
    · rw[Nat.div_eq_iff (by unfold B256;omega)];omega
    · rw[e,show r+r - B256+b+B256 - m=r+r+b - m by omega,Nat.mod_eq_of_lt (by omega)]
set_option maxHeartbeats 1000000 in
theorem divides_next (r b m:Nat) (hr:r<m) (hm:m<B256) (hb:b≤1) (w:World) :
    Calls Tryz.prog 244 #[numV r,.int .u64 (b:Int),numV m] w fun e w' =>
      e=.returned (.tuple #[numV (remN r b m),.int .u64 (quoN r b m:Nat)])∧Below w.heap.size w w':=by
  have hrB:r<B256:=by omega
  obtain⟨o0,o1,o2,o3,hlt⟩:=or_bit r b hrB hb
  have hA:=fun w=>limbs_Add r r hrB hrB w
  have hS:=fun w=>limbs_Sub ((r+r)%B256+b) m hlt hm w
  have hcase:((r+r) / B256=0∧bw ((r+r)%B256+b) m 0=1∧remN r b m=(r+r)%B256+b∧quoN r b m=0) ∨
      ((r+r) / B256=1∧bw ((r+r)%B256+b) m 0=bw ((r+r)%B256+b) m 0∧remN r b m=((r+r)%B256+b+B256 - m)%B256∧quoN r b m=1) ∨
      ((r+r) / B256=0∧bw ((r+r)%B256+b) m 0=0∧remN r b m=((r+r)%B256+b+B256 - m)%B256∧quoN r b m=1):=by
    by_cases h:r+r+b<m
    · exact .inl (next_no hr hm hb h)
    · obtain⟨e1|⟨e1,e1'⟩,e2,e3⟩:=next_yes hr hm hb (by omega)
      · exact .inr (.inl ⟨e1,rfl,e2,e3⟩)
      · exact .inr (.inr ⟨e1,e1',e2,e3⟩)
  generalize (r+r) / B256=c at *
  generalize bw ((r+r)%B256+b) m 0=l at *
  generalize ((r+r)%B256+b+B256 - m)%B256=y at *
  generalize (r+r)%B256+b=X1 at *
  generalize (r+r)%B256=X at *
  rcases hcase with ⟨rfl,rfl,e3,e4⟩|⟨rfl,-,e3,e4⟩|⟨rfl,rfl,e3,e4⟩
  all_goals
    rw[e3,e4]
    clear e3 e4
    go_enter Tryz.func244,Tryz.ntmps244
    go_wp2_with (first|(go_at_call 239;refine (hA _).mono ?_;rintro e w1 ⟨rfl,hb1⟩;have hbw:Ext w w1:=((((Ext.rfl' w).alloc' _).alloc' _).alloc' _).trans' hb1;have g5:Blk w1 (w.heap.size+1) 24 (numC m):=((Blk.new' (by simp)).alloc _).below hb1 (by simp);have g6:Blk w1 (w.heap.size+1+1) 24 zeroC:=(Blk.new' (by simp)).below hb1 (by simp);have g6_l:=g6.lt;have g5_0:=g5.cell_at (i:=0) rfl;have g5_1:=g5.cell_at (i:=1) rfl;have g5_2:=g5.cell_at (i:=2) rfl;have g5_3:=g5.cell_at (i:=3) rfl;have g5_f:=g5.frozen;have g5_l:=g5.lt;have g5_m:=Nat.lt_succ_of_lt g5_l;have g5_n:=Nat.lt_succ_of_lt g5_m)|(go_at_call 231;refine (hS _).mono ?_;rintro e w2 ⟨rfl,hb2⟩;have hbw2:Ext w w2:=(hbw.alloc' _).trans' hb2;have g8:Blk w2 w1.heap.size 24 (numC X1):=(Blk.new w1 _ (numC X1)).below hb2 (by simp);have g8_0:=g8.cell_at (i:=0) rfl;have g8_1:=g8.cell_at (i:=1) rfl;have g8_2:=g8.cell_at (i:=2) rfl;have g8_3:=g8.cell_at (i:=3) rfl;have g8_f:=g8.frozen;have g8_l:=g8.lt;have g8_m:=Nat.lt_succ_of_lt g8_l;have g8_n:=Nat.lt_succ_of_lt g8_m;have g6' : Blk w2 (w.heap.size+1+1) 24 zeroC:=(g6.alloc _).below hb2 (by simp;omega);have g6'_0:=g6'.cell_at (i:=0) rfl;have g6'_1:=g6'.cell_at (i:=1) rfl;have g6'_2:=g6'.cell_at (i:=2) rfl;have g6'_3:=g6'.cell_at (i:=3) rfl;have g6'_f:=g6'.frozen;have g6'_l:=g6'.lt;have g6'_m:=Nat.lt_succ_of_lt g6'_l;have g6'_n:=Nat.lt_succ_of_lt g6'_m))
    have hsz:=hbw2.size
    refine bodyPost_ret (v:=.tuple #[numV _,.int .u64 _]) ?_ rfl ⟨rfl,?_⟩
    · simp[results,Tryz.results244,go_sem,g6'_0,g6'_1,g6'_2,g6'_3,g6'_l]
    · ((repeat' (with_reducible first|exact hbw2|refine Below.drew ?_|refine Below.drewN' ?_ _|refine Below.setCell ?_ ?_ _|refine Below.alloc ?_ ?_ _))<;>(first|omega|(simp;done)|(simp;omega)))
end Go.Proofs.YtmhligfnchegdaaGreatDoor
namespace Go.Proofs.YtmhligfnchegdaaGreatDoor
def topN (D m:Nat):Nat:=D / 2 ^ m*2 ^ m
theorem topN_zero (D:Nat):topN D 0=D:=by simp[topN]
theorem step_bit (a m:Nat):a / 2 ^ m=a / 2 ^ (m+1)+a / 2 ^ (m+1)+bitN a m:=by
  unfold bitN
  rw[Nat.pow_succ,← Nat.div_div_eq_div_mul]
  omega
end Go.Proofs.YtmhligfnchegdaaGreatDoor
