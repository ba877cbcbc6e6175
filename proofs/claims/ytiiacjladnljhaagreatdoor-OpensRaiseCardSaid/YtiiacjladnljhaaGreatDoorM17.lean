/- Part 17 of the proof: ModA, CoA, ShC, ShD, SyA, SyB, SxW -/
import Derived.Test.YtiiacjladnljhaaGreatDoorM16
import Derived.Test.YtiiacjladnljhaaGreatDoorM08
import Derived.Test.YtiiacjladnljhaaGreatDoorM11
import Derived.Test.YtiiacjladnljhaaGreatDoorM10
set_option linter.unusedSimpArgs false
set_option linter.unusedVariables false
namespace Go.Proofs.YtiiacjladnljhaaGreatDoor
open Go.RowKit
attribute [local go_sem] run_eqin_num run_eqin_zero
theorem mods_word (a b m:Nat) (ha:a<m) (hb:b<m) (hm:m<18446744073709551616) (w:World) :
    Calls Tryz.prog 164 #[.int .u64 (a:Int),.int .u64 (b:Int),.int .u64 (m:Int)] w fun e w'=>e=.returned (.int .u64 ((a*b%m:Nat):Int))∧Below w.heap.size w w':=by
  have hM:=Tryz.bits_Mul64 a b (by omega) (by omega)
  have hlt:a*b / 18446744073709551616<m:=by
    rw[Nat.div_lt_iff_lt_mul (by omega)]
    have h1:a*b≤a*m:=Nat.mul_le_mul_left _ (by omega)
    have h2:a*m≤18446744073709551615*m:=Nat.mul_le_mul_right _ (by omega)
    omega
  have hD:=bits_Div64 (a*b / 18446744073709551616) (a*b%18446744073709551616) m (Nat.mod_lt _ (by omega)) hm hlt
  rw[show a*b / 18446744073709551616*18446744073709551616+a*b%18446744073709551616=a*b by rw[Nat.mul_comm (a*b / 18446744073709551616)];exact Nat.div_add_mod _ _] at hD
  generalize a*b%18446744073709551616=L at *
  generalize a*b / 18446744073709551616=H at *
  generalize a*b / m=q at *
  generalize a*b%m=r at *
  have HM:=Lib.hid hM
  have HD:=Lib.hid hD
  clear hM hD
  go_enter Tryz.func164,Tryz.ntmps164
  go_wp2_with (first|(go_at_call 219;refine (HM.out _).mono ?_;rintro e w1 ⟨rfl,rfl⟩)|(go_at_call 220;refine (HD.out _).mono ?_;rintro e w1 ⟨rfl,hb1⟩))
  go_ret
  exact⟨by simp,hb1⟩
theorem mods_times (a b m:Nat) (ha:a<m) (hb:b<m) (hm:m<B256) (w:World) :
    Calls Tryz.prog 167 #[numV a,numV b,numV m] w fun e w'=>e=.returned (numV (a*b%m))∧Below w.heap.size w w':=by
  have haB:a<B256:=by omega
  have hbB:b<B256:=by omega
  have hBi:=fun w=>limbs_Bits m hm w
  have hbw:Ext w w:=Ext.rfl' w
  by_cases hs:m<18446744073709551616
  · have hle:bitsN m≤64:=bitsN_le (by simpa using hs)
    have hdec:decide (((bitsN m:Nat):Int)≤64)=true:=by simp;omega
    have e1:wd 0 a=a:=Nat.mod_eq_of_lt (by omega)
    have e2:wd 0 b=b:=Nat.mod_eq_of_lt (by omega)
    have e3:wd 0 m=m:=Nat.mod_eq_of_lt (by omega)
    have hW:∀ w,Calls Tryz.prog 164 #[.int .u64 ((wd 0 a:Nat):Int),.int .u64 ((wd 0 b:Nat):Int),.int .u64 ((wd 0 m:Nat):Int)] w fun e w'=>e=.returned (.int .u64 ((a*b%m:Nat):Int))∧Below w.heap.size w w':=by
      rw[e1,e2,e3];exact fun w=>mods_word a b m ha hb hs w
    clear e1 e2 e3
    have hO:=fun w=>limbs_Of (a*b%m) (Nat.lt_trans (Nat.mod_lt _ (by omega)) hs) w
    generalize bitsN m=N at *
    generalize a*b%m=r at *
    go_enter Tryz.func167,Tryz.ntmps167
    go_wp2_with (first|(go_at_call 161;refine (hBi _).mono ?_;rintro e w1 ⟨rfl,hb1⟩;have g3:Blk w1 (w.heap.size) 24 (numC a):=Blk.below ((((Blk.new' (by first|rfl|(simp;done))).alloc _).alloc _).alloc _) hb1 (by first|(simp;done)|(simp;omega));have g4:Blk w1 (w.heap.size+1) 24 (numC b):=Blk.below (((Blk.new' (by first|rfl|(simp;done))).alloc _).alloc _) hb1 (by first|(simp;done)|(simp;omega));have g5:Blk w1 (w.heap.size+1+1) 24 (numC m):=Blk.below ((Blk.new' (by first|rfl|(simp;done))).alloc _) hb1 (by first|(simp;done)|(simp;omega));have g6:Blk w1 (w.heap.size+1+1+1) 24 (zeroC):=Blk.below (Blk.new' (by first|rfl|(simp;done))) hb1 (by first|(simp;done)|(simp;omega));replace hbw:=Ext.trans' (((((hbw).alloc' _).alloc' _).alloc' _).alloc' _) hb1;clear hb1 ;have g3_0:=g3.cell_at (i:=0) rfl;have g3_1:=g3.cell_at (i:=1) rfl;have g3_2:=g3.cell_at (i:=2) rfl;have g3_3:=g3.cell_at (i:=3) rfl;have g3_f:=g3.frozen;have g3_l:=g3.lt;have g3_m:=Nat.lt_succ_of_lt g3_l;have g3_n:=Nat.lt_succ_of_lt g3_m;have g4_0:=g4.cell_at (i:=0) rfl;have g4_1:=g4.cell_at (i:=1) rfl;have g4_2:=g4.cell_at (i:=2) rfl;have g4_3:=g4.cell_at (i:=3) rfl;have g4_f:=g4.frozen;have g4_l:=g4.lt;have g4_m:=Nat.lt_succ_of_lt g4_l;have g4_n:=Nat.lt_succ_of_lt g4_m;have g5_0:=g5.cell_at (i:=0) rfl;have g5_1:=g5.cell_at (i:=1) rfl;have g5_2:=g5.cell_at (i:=2) rfl;have g5_3:=g5.cell_at (i:=3) rfl;have g5_f:=g5.frozen;have g5_l:=g5.lt;have g5_m:=Nat.lt_succ_of_lt g5_l;have g5_n:=Nat.lt_succ_of_lt g5_m;have g6_0:=g6.cell_at (i:=0) rfl;have g6_1:=g6.cell_at (i:=1) rfl;have g6_2:=g6.cell_at (i:=2) rfl;have g6_3:=g6.cell_at (i:=3) rfl;have g6_f:=g6.frozen;have g6_l:=g6.lt;have g6_m:=Nat.lt_succ_of_lt g6_l;have g6_n:=Nat.lt_succ_of_lt g6_m)|(go_at_call 164;refine (hW _).mono ?_;rintro e w2 ⟨rfl,hb1⟩;replace g3:=Blk.below (g3) hb1 (by have:=g3.lt;first|exact this|(simp;omega));replace g4:=Blk.below (g4) hb1 (by have:=g4.lt;first|exact this|(simp;omega));replace g5:=Blk.below (g5) hb1 (by have:=g5.lt;first|exact this|(simp;omega));replace g6:=Blk.below (g6) hb1 (by have:=g6.lt;first|exact this|(simp;omega));replace hbw:=Ext.trans' (hbw) hb1;clear hb1 g3_0 g3_1 g3_2 g3_3 g3_f g3_l g3_m g3_n g4_0 g4_1 g4_2 g4_3 g4_f g4_l g4_m g4_n g5_0 g5_1 g5_2 g5_3 g5_f g5_l g5_m g5_n g6_0 g6_1 g6_2 g6_3 g6_f g6_l g6_m g6_n;have g6_0:=g6.cell_at (i:=0) rfl;have g6_1:=g6.cell_at (i:=1) rfl;have g6_2:=g6.cell_at (i:=2) rfl;have g6_3:=g6.cell_at (i:=3) rfl;have g6_f:=g6.frozen;have g6_l:=g6.lt;have g6_m:=Nat.lt_succ_of_lt g6_l;have g6_n:=Nat.lt_succ_of_lt g6_m)|(go_at_call 159;refine (hO _).mono ?_;rintro e w3 ⟨rfl,hb1⟩;replace g6:=Blk.below (g6) hb1 (by have:=g6.lt;first|exact this|(simp;omega));replace hbw:=Ext.trans' (hbw) hb1;clear hb1 g6_0 g6_1 g6_2 g6_3 g6_f g6_l g6_m g6_n;have g6_0:=g6.cell_at (i:=0) rfl;have g6_1:=g6.cell_at (i:=1) rfl;have g6_2:=g6.cell_at (i:=2) rfl;have g6_3:=g6.cell_at (i:=3) rfl;have g6_f:=g6.frozen;have g6_l:=g6.lt;have g6_m:=Nat.lt_succ_of_lt g6_l;have g6_n:=Nat.lt_succ_of_lt g6_m))
    have hsz:=hbw.size
    refine bodyPost_ret (v:=numV r) ?_ rfl ⟨rfl,?_⟩
    · simp[results,Tryz.results167,go_sem,g6_0,g6_1,g6_2,g6_3,g6_l]
    · ((repeat' (with_reducible first|exact hbw|refine Below.drew ?_|refine Below.drewN' ?_ _|refine Below.setCell ?_ ?_ _|refine Below.alloc ?_ ?_ _))<;>(first|omega|(simp;done)|(simp;omega)))
  · have hle:¬ bitsN m≤64:=by rw[bitsN_le_iff];simpa using hs
    have hdec:decide (((bitsN m:Nat):Int)≤64)=false:=by simp;omega
    have hM:=fun w=>limbs_Mul a b haB hbB w
    have hW:=fun w=>divides_Wide (a*b%B256) (a*b / B256) m (Nat.mod_lt _ B256_zero) (by
      rw[Nat.div_lt_iff_lt_mul B256_zero]
      exact Nat.mul_lt_mul'' haB hbB) hm (by omega) w
    rw[show a*b / B256*B256+a*b%B256=a*b by rw[Nat.mul_comm (a*b / B256)];exact Nat.div_add_mod _ _] at hW
    generalize bitsN m=N at *
    generalize a*b%m=r at *
    generalize a*b%B256=lo at *
    generalize a*b / B256=hi at *
    go_enter Tryz.func167,Tryz.ntmps167
    go_wp2_with (first|(go_at_call 161;refine (hBi _).mono ?_;rintro e w1 ⟨rfl,hb1⟩;have g3:Blk w1 (w.heap.size) 24 (numC a):=Blk.below ((((Blk.new' (by first|rfl|(simp;done))).alloc _).alloc _).alloc _) hb1 (by first|(simp;done)|(simp;omega));have g4:Blk w1 (w.heap.size+1) 24 (numC b):=Blk.below (((Blk.new' (by first|rfl|(simp;done))).alloc _).alloc _) hb1 (by first|(simp;done)|(simp;omega));have g5:Blk w1 (w.heap.size+1+1) 24 (numC m):=Blk.below ((Blk.new' (by first|rfl|(simp;done))).alloc _) hb1 (by first|(simp;done)|(simp;omega));have g6:Blk w1 (w.heap.size+1+1+1) 24 (zeroC):=Blk.below (Blk.new' (by first|rfl|(simp;done))) hb1 (by first|(simp;done)|(simp;omega));replace hbw:=Ext.trans' (((((hbw).alloc' _).alloc' _).alloc' _).alloc' _) hb1;clear hb1 ;have g3_0:=g3.cell_at (i:=0) rfl;have g3_1:=g3.cell_at (i:=1) rfl;have g3_2:=g3.cell_at (i:=2) rfl;have g3_3:=g3.cell_at (i:=3) rfl;have g3_f:=g3.frozen;have g3_l:=g3.lt;have g3_m:=Nat.lt_succ_of_lt g3_l;have g3_n:=Nat.lt_succ_of_lt g3_m;have g4_0:=g4.cell_at (i:=0) rfl;have g4_1:=g4.cell_at (i:=1) rfl;have g4_2:=g4.cell_at (i:=2) rfl;have g4_3:=g4.cell_at (i:=3) rfl;have g4_f:=g4.frozen;have g4_l:=g4.lt;have g4_m:=Nat.lt_succ_of_lt g4_l;have g4_n:=Nat.lt_succ_of_lt g4_m)|(go_at_call 221;refine (hM _).mono ?_;rintro e w2 ⟨rfl,hb1⟩;replace g3:=Blk.below (g3) hb1 (by have:=g3.lt;first|exact this|(simp;omega));replace g4:=Blk.below (g4) hb1 (by have:=g4.lt;first|exact this|(simp;omega));replace g5:=Blk.below (g5) hb1 (by have:=g5.lt;first|exact this|(simp;omega));replace g6:=Blk.below (g6) hb1 (by have:=g6.lt;first|exact this|(simp;omega));replace hbw:=Ext.trans' (hbw) hb1;clear hb1 g3_0 g3_1 g3_2 g3_3 g3_f g3_l g3_m g3_n g4_0 g4_1 g4_2 g4_3 g4_f g4_l g4_m g4_n;have g5_0:=g5.cell_at (i:=0) rfl;have g5_1:=g5.cell_at (i:=1) rfl;have g5_2:=g5.cell_at (i:=2) rfl;have g5_3:=g5.cell_at (i:=3) rfl;have g5_f:=g5.frozen;have g5_l:=g5.lt;have g5_m:=Nat.lt_succ_of_lt g5_l;have g5_n:=Nat.lt_succ_of_lt g5_m)|(go_at_call 222;refine (hW _).mono ?_;rintro e w3 ⟨rfl,hb1⟩;replace g5:=Blk.below (((g5).alloc _).alloc _) hb1 (by have:=g5.lt;first|exact this|(simp;omega));replace g6:=Blk.below (((g6).alloc _).alloc _) hb1 (by have:=g6.lt;first|exact this|(simp;omega));have g7:Blk w3 (w2.heap.size) 24 (numC lo):=Blk.below ((Blk.new' (by first|rfl|(simp;done))).alloc _) hb1 (by first|(simp;done)|(simp;omega));have g8:Blk w3 (w2.heap.size+1) 24 (numC hi):=Blk.below (Blk.new' (by first|rfl|(simp;done))) hb1 (by first|(simp;done)|(simp;omega));replace hbw:=Ext.trans' (((hbw).alloc' _).alloc' _) hb1;clear hb1 g5_0 g5_1 g5_2 g5_3 g5_f g5_l g5_m g5_n;have g6_0:=g6.cell_at (i:=0) rfl;have g6_1:=g6.cell_at (i:=1) rfl;have g6_2:=g6.cell_at (i:=2) rfl;have g6_3:=g6.cell_at (i:=3) rfl;have g6_f:=g6.frozen;have g6_l:=g6.lt;have g6_m:=Nat.lt_succ_of_lt g6_l;have g6_n:=Nat.lt_succ_of_lt g6_m))
    have hsz:=hbw.size
    refine bodyPost_ret (v:=numV r) ?_ rfl ⟨rfl,?_⟩
    · simp[results,Tryz.results167,go_sem,g6_0,g6_1,g6_2,g6_3,g6_l]
    · ((repeat' (with_reducible first|exact hbw|refine Below.drew ?_|refine Below.drewN' ?_ _|refine Below.setCell ?_ ?_ _|refine Below.alloc ?_ ?_ _))<;>(first|omega|(simp;done)|(simp;omega)))
end Go.Proofs.YtiiacjladnljhaaGreatDoor
namespace Go.Proofs.YtiiacjladnljhaaGreatDoor
open Go Go.RowKit
namespace Sx
theorem Fn.of {P:Program} {f:FuncId} {args:List Value} {v:Value} (h:∀ w,Calls P f args.toArray w fun e w'=>e=.returned v∧Below w.heap.size w w'):Fn P f args Tr (Is v) :=
  fun w _=>(h w).mono fun _ _ ⟨h1,h2⟩=>⟨v,[],h1,h2,.nil _ _,rfl⟩
theorem B256_one' : 1<B256:=by unfold B256;omega
theorem B256_of {n:Nat} (h:n<18446744073709551616):n<B256:=by unfold B256;omega
theorem c_Of (n:Nat) (h:n<18446744073709551616:=by omega):Fn Tryz.prog 159 [.int .u64 (n:Int)] Tr (Is (numV n)):=.of fun w=>limbs_Of n h w
theorem c_Of1:Fn Tryz.prog 159 [.int .u64 1] Tr (Is (numV 1)):=c_Of 1
theorem c_Of0:Fn Tryz.prog 159 [.int .u64 0] Tr (Is (numV 0)):=c_Of 0
theorem c_Cmp (a b:Nat) (ha:a<B256) (hb:b<B256):Fn Tryz.prog 158 [numV a,numV b] Tr (Is (.int .i64 (cmpN a b))):=.of fun w=>limbs_Cmp a b ha hb w
theorem c_Bits (a:Nat) (ha:a<B256):Fn Tryz.prog 161 [numV a] Tr (Is (.int .i64 (bitsN a:Nat))):=.of fun w=>limbs_Bits a ha w
theorem c_Bit (a:Nat) (i:Int) (ha:a<B256) (h0:0≤i) (h1:i≤1000000):Fn Tryz.prog 218 [numV a,.int .i64 i] Tr (Is (.int .u64 (bitN a i.toNat:Nat))):=.of fun w=>limbs_Bit a i ha h0 h1 w
theorem c_LAdd (a b:Nat) (ha:a<B256) (hb:b<B256):Fn Tryz.prog 229 [numV a,numV b] Tr (Is (.tuple #[numV ((a+b)%B256),.int .u64 (((a+b) / B256:Nat):Int)])):=.of fun w=>limbs_Add a b ha hb w
theorem c_LSub (a b:Nat) (ha:a<B256) (hb:b<B256):Fn Tryz.prog 217 [numV a,numV b] Tr (Is (.tuple #[numV ((a+B256 - b)%B256),.int .u64 ((bw a b 0:Nat):Int)])):=.of fun w=>limbs_Sub a b ha hb w
theorem c_Div (a b:Nat) (ha:a<B256) (hb:b<B256) (h0:0<b):Fn Tryz.prog 275 [numV a,numV b] Tr (Is (.tuple #[numV (a / b),numV (a%b),.int .i64 0])):=.of fun w=>divides_Div a b ha hb h0 w
theorem c_Common (a b:Nat) (ha:a<B256) (hb:b<B256):Fn Tryz.prog 274 [numV a,numV b] Tr (Is (numV (Nat.gcd a b))):=.of fun w=>divides_Common a b ha hb w
theorem c_times (a b m:Nat) (ha:a<m) (hb:b<m) (hm:m<B256):Fn Tryz.prog 167 [numV a,numV b,numV m] Tr (Is (numV (a*b%m))):=.of fun w=>mods_times a b m ha hb hm w
theorem c_word (a b m:Nat) (ha:a<m) (hb:b<m) (hm:m<18446744073709551616):Fn Tryz.prog 164 [.int .u64 (a:Int),.int .u64 (b:Int),.int .u64 (m:Int)] Tr (Is (.int .u64 ((a*b%m:Nat):Int))):=.of fun w=>mods_word a b m ha hb hm w
section
variable {w0:World} {gs:List Nat} {K:List (Nat × Value)} {L:List Ent}
theorem run_eqGuard_num (op:BinOp) (x y:Operand) (a b:Array Value) (w:World):(eqGuard op 24 x y (.agg a) (.agg b)).run Tryz.prog w=.ok () w:=by
  cases op<;>kernel_rfl
theorem a_eqNum {x y:Operand} {yt ty:TypeId} {a b:Nat} (hx:ev K x=some (numV a):=by rfl) (hy:ev K y=some (numV b):=by rfl) (ha:a<B256:=by first|assumption|omega|exact B256_one'|exact B256_zero) (hb:b<B256:=by first|assumption|omega|exact B256_one'|exact B256_zero) :
    Does Tryz.prog w0 gs K L (.binOp .eql 24 x y yt) ty (.bool (decide (a=b))):=by
  intro ac w hk _ o ho _
  have h1:=run_eq_num ha hb w
  simp only[execOp,ho,hk.eval hx,hk.eval hy,Sem.run_bind,run_eqGuard_num,Result.andThen_ok,h1,Sem.run_pure]
  rfl
theorem a_neqNum {x y:Operand} {yt ty:TypeId} {a b:Nat} (hx:ev K x=some (numV a):=by rfl) (hy:ev K y=some (numV b):=by rfl) (ha:a<B256:=by first|assumption|omega|exact B256_one'|exact B256_zero) (hb:b<B256:=by first|assumption|omega|exact B256_one'|exact B256_zero) :
    Does Tryz.prog w0 gs K L (.binOp .neq 24 x y yt) ty (.bool (decide (a≠b))):=by
  intro ac w hk _ o ho _
  have h1:=run_eqin_num ha hb w
  have h2:(binOp .neq 24 (numV a) (numV b)).run Tryz.prog w=.ok (.bool (!eqN a b)) w:=by
    show ((do pure (.bool (!(← Op.equal 24 (numV a) (numV b)))):Sem Value)).run Tryz.prog w=_
    simp only[Sem.run_bind]
    show ((Op.equalIn 10000 24 (numV a) (numV b)).run Tryz.prog w).andThen _=_
    rw[h1];rfl
  simp only[execOp,ho,hk.eval hx,hk.eval hy,Sem.run_bind,run_eqGuard_num,Result.andThen_ok,h2,Sem.run_pure]
  simp[eqN]
end
section
variable {p q:Prop}
theorem Tc (k:p) (h:p→q:=by first|exact fun k=>Tb k|exact fun k=>WO.does a_eqNum k|exact fun k=>WO.does a_neqNum k):q:=h k
theorem Df (k:p) (h:p→q:=by first|exact fun k=>DQ.auto (k:=k)|exact fun k=>DQ.autoF (k:=k)|exact fun k=>DQ.does (fun s _=>a_eqNum) Dp.const k|exact fun k=>DQ.does (fun s _=>a_neqNum) Dp.const k):q:=h k
theorem Dc (k:p) (h:p→q:=by first|exact fun k=>DQ.auto (k:=k)|exact fun k=>DQ.does (fun s _=>a_eqNum) Dp.const k|exact fun k=>DQ.does (fun s _=>a_neqNum) Dp.const k):q:=h k
end
end Sx
end Go.Proofs.YtiiacjladnljhaaGreatDoor
namespace Go.Proofs.YtiiacjladnljhaaGreatDoor
open Go Go.RowKit
namespace Sx
attribute [local irreducible] wd DQ DQS WO WC WX
end Sx
end Go.Proofs.YtiiacjladnljhaaGreatDoor
namespace Go.Proofs.YtiiacjladnljhaaGreatDoor
open Go Go.RowKit Go.BigFrame
namespace Sx
attribute [local irreducible] wd DQ DQS WO WC WX
end Sx
end Go.Proofs.YtiiacjladnljhaaGreatDoor
namespace Go.Proofs.YtiiacjladnljhaaGreatDoor
open Go Go.RowKit Go.BigFrame
namespace Sx
end Sx
end Go.Proofs.YtiiacjladnljhaaGreatDoor
namespace Go.Proofs.YtiiacjladnljhaaGreatDoor
open Go Go.RowKit Go.BigFrame
namespace Sx
def RdF {α:Type} (f:α→List Value) (v:Value) (xs:List α) (w:World):Prop :=
  ∃ pt c,v=.slice pt xs.length c∧((pt=none∧xs=[])∨∃ b o,pt=some ⟨b,o,none⟩∧Seg w b o (xs.flatMap f))
theorem RdF.mod {α:Type} {f:α→List Value} {v:Value} {xs:List α} {w w' : World} (h:RdF f v xs w) (hm:Mod [] w w'):RdF f v xs w':=by
  obtain⟨pt,c,e,h⟩:=h
  exact⟨pt,c,e,h.imp id (fun ⟨b,o,e2,hs⟩=>⟨b,o,e2,hs.mod hm (by simp)⟩)⟩
theorem RdF.seg {α:Type} {f:α→List Value} {xs:List α} {w:World} {b o c:Nat} {r:List Value} (h:Seg w b o (xs.flatMap f++r)):RdF f (.slice (some ⟨b,o,none⟩) xs.length c) xs w :=
  ⟨_,c,rfl,.inr ⟨b,o,rfl,fun i v hv=>h i v (by rw[List.getElem?_append_left (by rcases Nat.lt_or_ge i (xs.flatMap f).length with h1|h1;exact h1;rw[List.getElem?_eq_none h1] at hv;cases hv)];exact hv)⟩⟩
theorem RdF.lt {α:Type} {f:α→List Value} {k:Nat} (hk:∀ x,(f x).length=k+1) {xs:List α} {w:World} {b o n c:Nat} (h:RdF f (.slice (some ⟨b,o,none⟩) n c) xs w) (hne:xs≠[]):b<w.heap.size:=by
  obtain⟨pt,c',e,h⟩:=h
  cases e
  rcases h with ⟨h1,_⟩|⟨b',o',e2,hs⟩
  · cases h1
  · cases e2
    cases xs with
    | nil=>exact absurd rfl hne
    | cons x r =>
      have hx:=hk x
      cases hfx:f x with
      | nil=>rw[hfx] at hx;cases hx
      | cons v vs =>
        exact cell_lt (hs 0 v (by simp[hfx]))
def NewC (t n c:Nat) (cs:List Value):Value→List Ent→Prop:=fun v N=>∃ g,v=.slice (some ⟨g,0,none⟩) n c∧N=[⟨g,t,cs⟩]
theorem Fn.exC {P:Program} {f:FuncId} {fs:List Value} {R:World→Prop} {t n c:Nat} {cs:List Value} (h:Fn P f fs R (NewC t n c cs)) :
    Fn P f fs R (Ex (fun x=>.slice (some ⟨x 0,0,none⟩) n c) (fun x=>[⟨x 0,t,cs⟩]) (fun _=>True)) :=
  Fn.weak h (fun _ h=>h) (fun v N ⟨g,e1,e2⟩=>⟨fun _=>g,e1,e2,trivial⟩)
section
variable {P:Program} {w0:World} {gs:List Nat} {n:Nat} {ops:List Oper} {Q:Exit→Act→World→Prop} {K:List (Nat × Value)} {L:List Ent} {rest:List Oper}
variable {d:Nat} {op:Op} {ty:TypeId} {pos:String} {after:Array Edge} {gd:Option (Nat × Bool)}
theorem WO.acallC {f:FuncId} [Cal P f] {xs:Array Operand} {ats:Array TypeId} {fs:List Value} {R:World→Prop} {t m c:Nat} {cs:List Value} (hc:Fn P f fs R (NewC t m c cs)) (hR:∀ w,Mr w0 gs L w→R w)
    (k:∀ g,WO P w0 gs n ops Q ((d,.slice (some ⟨g,0,none⟩) m c)::K) (⟨g,t,cs⟩::L) rest) (ha:evs K xs.toList=some fs:=by rfl) (hd:Nat.blt d n=true:=by rfl) (hw:wk ops K gd=some true:=by rfl) :
    WO P w0 gs n ops Q K L (⟨some d,.call { callee:=.value (.func f),args:=xs,argTypes:=ats },ty,pos,after,gd⟩::rest) :=
  WO.calls (fs:=[]) (cs:=[]) hc rfl ha (by simp) hR (fun u N ⟨g,e1,e2⟩=>by subst e1;subst e2;exact k g) hd hw
theorem WX.retC {fn:Func} {r:ResultVar} {g t m c:Nat} {cs:List Value} {L' : List Ent} (hfn:fn.results=#[r]:=by rfl) (hr:Rv P w0 [] K L r (.slice (some ⟨g,0,none⟩) m c):=by exact rv_tmp rfl) (hN:Pk L g t cs L':=by (repeat (first|exact Pk.here|apply Pk.there))) :
    WX w0 [] n .ret (bodyPost P fn (FnPost w0 (NewC t m c cs))) K L:=WX.ret1 hfn hr [⟨g,t,cs⟩] ⟨cs,L',hN,rfl,trivial⟩ ⟨g,rfl,rfl⟩
end
section
open Kp
variable {P:Program} {w0:World} {gs:List Nat} {n:Nat} {fl:List Nat} {Q:Exit→Act→World→Prop} {ops:List Oper} {L0:List Ent}
variable {tail rest:List Oper} {i:Nat} {C:Nums→Prop} {K:Nums→List (Nat × Value)} {N:Nums→List (Nat × Ent)}
variable {d:Nat} {op:Op} {ty:TypeId} {pos:String} {after:Array Edge} {gd:Option (Nat × Bool)}
theorem DQ.acallC {f:FuncId} [Cal P f] {xs:Array Operand} {ats:Array TypeId} {vs:List Value} {Rq:World→Prop} {t m c:Nat} {cs:List Value} (hc:Fn P f vs Rq (NewC t m c cs)) (hR:∀ w,Mr w0 gs L0 w→Rq w)
    (k:DQ P w0 gs n fl Q ops L0 tail (i+1) rest (fun s=>C s∧True) (fun s=>(d,.slice (some ⟨s i 0,0,none⟩) m c)::K s) (fun s=>(i,⟨s i 0,t,cs⟩)::N s)) (ha:∀ s,evs (K s) xs.toList=some vs:=by (intro s;rfl))
    (hfl:fl.contains i=false:=by rfl) (hw:∀ s,wk ops (K s) gd=some true:=by intro _;rfl) (hd:Nat.blt d n=true:=by rfl) :
    DQ P w0 gs n fl Q ops L0 tail i (⟨some d,.call { callee:=.value (.func f),args:=xs,argTypes:=ats },ty,pos,after,gd⟩::rest) C K N :=
  DQ.callsE (fs:=fun _=>[]) (cs:=fun _=>[]) (R:=fun _=>Rq) (vf:=fun _ x=>.slice (some ⟨x 0,0,none⟩) m c) (Nf:=fun _ x=>[⟨x 0,t,cs⟩]) (S:=fun _ _=>True) (fun _=>[]) (fun _=>.nil)
    (fun _=>⟨fun _=>0,trivial⟩) (fun _ _=>hc.exC) (fun _=>rfl) ha (fun _=>by simp) (fun _ _ w h=>hR w h) Dp.const Dp.const Dp.const k hfl hw hd
theorem DQ.acallM {f:FuncId} [Cal P f] {xs:Array Operand} {ats:Array TypeId} {vs:List Value} {Rq:World→Prop} {v:Value} (hc:Fn P f vs Rq (Is v)) (hR:∀ w,Mr w0 gs L0 w→Rq w)
    (k:DQ P w0 gs n fl Q ops L0 tail (i+1) rest C (fun s=>(d,v)::K s) N) (ha:∀ s,evs (K s) xs.toList=some vs:=by (intro s;rfl))
    (hfl:fl.contains i=false:=by rfl) (hw:∀ s,wk ops (K s) gd=some true:=by intro _;rfl) (hd:Nat.blt d n=true:=by rfl) :
    DQ P w0 gs n fl Q ops L0 tail i (⟨some d,.call { callee:=.value (.func f),args:=xs,argTypes:=ats },ty,pos,after,gd⟩::rest) C K N :=
  DQ.callE (v:=fun _=>v) (fun _=>[]) (fun _=>.nil) (fun _ _=>hc) ha (fun _ _ w h=>hR w h) Dp.const k hfl hw hd
end
theorem flat_length {α:Type} {f:α→List Value} {k:Nat} (hk:∀ x,(f x).length=k):∀ xs:List α,(xs.flatMap f).length=xs.length*k
  | []=>by simp
  | x::r=>by simp[hk,flat_length hk r,Nat.add_mul];omega
theorem mkz_drop {z:List Value} (m:Nat):(mkz (m+1) z).drop z.length=mkz m z:=by
  unfold mkz
  rw[List.replicate_succ,List.flatten_cons,List.drop_left]
theorem over_twin {α:Type} {f:α→List Value} {xs:List α} {i m k:Nat} {x:α} {z:List Value} (hk:∀ x,(f x).length=k) (hz:z.length=k) (hx:xs[i]?=some x) (hm:0<m) :
    over ((xs.take i).flatMap f++mkz m z) (i*z.length) (f x)=(xs.take (i+1)).flatMap f++mkz (m - 1) z:=by
  have hi:i<xs.length:=by
    rcases Nat.lt_or_ge i xs.length with h|h
    · exact h
    · rw[List.getElem?_eq_none h] at hx;cases hx
  have hl:((xs.take i).flatMap f).length=i*z.length:=by
    rw[flat_length hk,List.length_take,hz,Nat.min_eq_left (by omega)]
  have e:=over_end (xs:=(xs.take i).flatMap f) (r:=mkz m z) (ys:=f x)
  rw[hl] at e
  rw[e,List.take_add_one,hx]
  obtain⟨m',rfl⟩ : ∃ m',m=m' + 1:=⟨m - 1,by omega⟩
  have hd:=mkz_drop (z:=z) m'
  rw[show z.length=(f x).length by rw[hk,hz]] at hd
  rw[hd]
  simp
theorem over_spare {α:Type} {f:α→List Value} {xs:List α} {k:Nat} {z s:List Value} (hk:∀ x,(f x).length=k) (hz:z.length=k) (hs:s.length=k) :
    over (xs.flatMap f++mkz 1 z) (xs.length*z.length) s=xs.flatMap f++s:=by
  have hl:(xs.flatMap f).length=xs.length*z.length:=by rw[flat_length hk,hz]
  have e:=over_end (xs:=xs.flatMap f) (r:=mkz 1 z) (ys:=s)
  rw[hl] at e
  rw[e]
  have:(mkz 1 z).drop s.length=[]:=by
    apply List.drop_of_length_le
    rw[mkz_length,hs,hz];omega
  rw[this,List.append_nil]
theorem cut_flatS {α:Type} {f:α→List Value} {k:Nat} {xs:List α} {r:List Value}:cut (xs.flatMap f++r) (xs.flatMap f).length r.length=r:=by
  unfold cut
  rw[List.drop_left,List.take_of_length_le (Nat.le_refl _)]
end Sx
end Go.Proofs.YtiiacjladnljhaaGreatDoor
namespace Go.Proofs.YtiiacjladnljhaaGreatDoor
open Go Go.RowKit Go.BigFrame
namespace Sx
def Qk (k:Act→World→Prop) (Q:Exit→Act→World→Prop):Exit→Act→World→Prop
  | .normal,a,w=>k a w
  | e,a,w=>Q e a w
theorem Qk.out {k:Act→World→Prop} {Q:Exit→Act→World→Prop} (h:LetsOut (Qk k Q)):LetsOut Q:=h
theorem wp_Qk {P:Program} {o:Oper} {a:Act} {w:World} {k:Act→World→Prop} {Q:Exit→Act→World→Prop} (h:o.wp P a w (fun a w=>Qk k Q .normal a w) (Qk k Q)):o.wp P a w k Q:=by
  unfold Oper.wp at *
  generalize (execOp a.eval o).run P w=r at *
  cases r with
  | ok n w' =>
    cases n<;>simp only[Oper.upon] at h ⊢<;>first|exact h|exact Calls.mono h (fun e w'' he=>by cases e<;>first|exact he|exact Qk.out he)
  | halt x w'=>cases x<;>simp only[Oper.upon] at h ⊢<;>exact h
theorem wpOp_Qk {P:Program} {ops:Array Oper} {i:Nat} {o:Oper} {a:Act} {w:World} {k:Act→World→Prop} {Q:Exit→Act→World→Prop} (ho:ops[i]?=some o) (h:wpList P ops (Qk k Q) [o] a w):wpOp P ops Q i k a w:=by
  unfold wpOp
  rw[ho]
  unfold wpList at h
  split at h
  · rename_i hw
    simp only[hw,if_true]
    exact h.imp (fun h=>wp_Qk h) (fun h=>⟨h.1,Qk.out h.2⟩)
  · rename_i hw
    simp only[hw]
    exact h
section
variable (P:Program) (w0:World) (gs:List Nat) (n:Nat) (ops:List Oper) (Q:Exit→Act→World→Prop) (K:List (Nat × Value)) (L:List Ent)
def WA (S:List Bool) (f:Nat):Prop:=∀ a w,a.defers=[]→a.tmps.size=n→Kn K a→Me w0 gs L w→wpAny P .any ops.toArray Q f S.toArray a w
end
section
variable {P:Program} {w0:World} {gs:List Nat} {n:Nat} {ops:List Oper} {Q:Exit→Act→World→Prop} {K:List (Nat × Value)} {L:List Ent}
theorem Me.drawn {w:World} {d:Nat} (h:Me w0 gs L w):Me w0 gs L { w with drawn:=d } :=
  ⟨⟨h.mod.os,h.mod.tape,h.mod.output,h.mod.size,h.mod.block⟩,h.ok,h.mine,h.nodup⟩
theorem WC.all {id:Nat} {l:List Oper} [Mix P] (k:WA P w0 gs n l Q K L (List.replicate l.length false) l.length):WC P w0 gs n (.region id l.toArray true) Q K L:=by
  intro a w h1 h2 h3 h4
  refine wp_region_any Mix.out ?_
  have:=k a { w with drawn:=w.drawn+1 } h1 h2 h3 h4.drawn
  simpa using this
end
end Sx
end Go.Proofs.YtiiacjladnljhaaGreatDoor
