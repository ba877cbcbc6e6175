/- Part 12 of the proof. -/
import Derived.Test.YtegjemedanccoaaGreatDoorM11
import Derived.Laws.BitsAllLaws
set_option linter.unusedSimpArgs false
set_option linter.unusedVariables false
set_option maxHeartbeats 8000000
namespace Go.Proofs.YtegjemedanccoaaGreatDoor
section
open Go.RowKit
def uC (a:Nat):Bool:=decide (a<18446744073709551616)
theorem j4 (a:Nat):decide (((zu a:Nat):Int)≤64)=uC a:=by
 unfold uC;have:=yg (x:=a) (k:=64);rw[show (2:Nat) ^ 64=18446744073709551616 by decide] at this
 by_cases h:a<18446744073709551616<;>simp[h]<;>omega
theorem vj (a:Nat) (ha:a<zc) (w:World) :
  Calls Tryz.prog 143 #[ze a] w fun e w'=>e=.returned (.bool (uC a))∧Below w.heap.size w w':=by
 have hs:=j4 a
 go_enter Tryz.func143,Tryz.ntmps143
 go_wp2_with (go_at_call 60;refine (uY a ha _).mono ?_;rintro e w1 ⟨rfl,hb1⟩)
 go_ret
 exact⟨by simp,((Ext.rfl' w).alloc' _).trans' hb1⟩
abbrev tm:List Value:=[.int .u64 0,.int .u64 0,.int .u64 0,.int .u64 0]
theorem or_bit (r b:Nat) (hr:r<zc) (hb:b≤1) :
  bits .or .u64 ((wd 0 ((r+r)%zc):Nat):Int) (b:Int)=((wd 0 ((r+r)%zc+b):Nat):Int) ∧
  wd 1 ((r+r)%zc)=wd 1 ((r+r)%zc+b)∧wd 2 ((r+r)%zc)=wd 2 ((r+r)%zc+b)∧wd 3 ((r+r)%zc)=wd 3 ((r+r)%zc+b)∧(r+r)%zc+b<zc:=by
 have hev:∃ k,(r+r)%zc=2*k∧2*k+b<zc:=by
  refine⟨r%57896044618658097711785492504343953926634992332820282019728792003956564819968,?_,?_⟩
  ·rw[← Nat.two_mul,show zc=2*57896044618658097711785492504343953926634992332820282019728792003956564819968 by decide,Nat.mul_mod_mul_left]
  ·have:=Nat.mod_lt r (show 0<57896044618658097711785492504343953926634992332820282019728792003956564819968 by omega);have h:2*(r%57896044618658097711785492504343953926634992332820282019728792003956564819968)+b<115792089237316195423570985008687907853269984665640564039457584007913129639936:=by omega
   exact h
 obtain⟨k,hk,hlt⟩:=hev;rw[hk];have hev2:∃ j,wd 0 (2*k)=2*j∧wd 0 (2*k+b)=2*j+b:=⟨wd 0 (2*k) / 2,by simp only[wd];omega,by simp only[wd];omega⟩;obtain⟨j,hj,hj2⟩:=hev2;have hjl:=yf 0 (2*k);refine⟨?_,?_,?_,?_,hlt⟩
 ·rw[u64_or_nat _ _ (yf _ _) (by omega),hj,hj2];have:=Nat.two_pow_add_eq_or_of_lt (i:=1) (b:=b) (by omega) j;rw[← this]
 all_goals (simp only[wd];omega)
def fG (r b m:Nat):Nat:=(r+r+b)%m
def eW (r b m:Nat):Nat:=(r+r+b) / m
theorem abx {r b m:Nat} (hr:r<m) (hm:m<zc) (hb:b≤1) (h:r+r+b<m) :
  (r+r) / zc=0∧bw ((r+r)%zc+b) m 0=1∧fG r b m=(r+r)%zc+b∧eW r b m=0:=by
 have e:(r+r)%zc=r+r:=Nat.mod_eq_of_lt (by omega);refine⟨Nat.div_eq_of_lt (by omega),?_,?_,Nat.div_eq_of_lt h⟩
 ·rw[e];simp[bw];omega
 ·rw[e];exact Nat.mod_eq_of_lt h
theorem cQ {r b m:Nat} (hr:r<m) (hm:m<zc) (hb:b≤1) (h:m≤r+r+b) :
  ((r+r) / zc=1∨((r+r) / zc=0∧bw ((r+r)%zc+b) m 0=0))∧fG r b m=((r+r)%zc+b+zc - m)%zc∧eW r b m=1:=by
 have hq:eW r b m=1:=by
  unfold eW;rw[Nat.div_eq_iff (by omega)];omega
 have hrm:fG r b m=r+r+b - m:=by
  unfold fG;rw[Nat.mod_eq_sub_mod h,Nat.mod_eq_of_lt (by omega)]
 rw[hrm,hq]
 by_cases hc:r+r<zc
 ·have e:(r+r)%zc=r+r:=Nat.mod_eq_of_lt hc;refine⟨.inr ⟨Nat.div_eq_of_lt hc,by rw[e];simp[bw];omega⟩,?_,rfl⟩;rw[e,show r+r+b+zc - m=(r+r+b - m)+zc by omega,Nat.add_mod_right,Nat.mod_eq_of_lt (by omega)]
 ·have e:(r+r)%zc=r+r - zc:=by rw[Nat.mod_eq_sub_mod (by omega),Nat.mod_eq_of_lt (by omega)]
  refine⟨.inl ?_,?_,rfl⟩
  ·rw[Nat.div_eq_iff (by unfold zc;omega)];omega
  ·rw[e,show r+r - zc+b+zc - m=r+r+b - m by omega,Nat.mod_eq_of_lt (by omega)]
theorem sF (r b m:Nat) (hr:r<m) (hm:m<zc) (hb:b≤1) (w:World) :
  Calls Tryz.prog 146 #[ze r,.int .u64 (b:Int),ze m] w fun e w' =>
   e=.returned (.tuple #[ze (fG r b m),.int .u64 (eW r b m:Nat)])∧Below w.heap.size w w':=by
 have hrB:r<zc:=by omega
 obtain⟨o0,o1,o2,o3,hlt⟩:=or_bit r b hrB hb;have hA:=fun w=>oQ r r hrB hrB w;have hS:=fun w=>tR ((r+r)%zc+b) m hlt hm w
 have hcase:((r+r) / zc=0∧bw ((r+r)%zc+b) m 0=1∧fG r b m=(r+r)%zc+b∧eW r b m=0) ∨
   ((r+r) / zc=1∧bw ((r+r)%zc+b) m 0=bw ((r+r)%zc+b) m 0∧fG r b m=((r+r)%zc+b+zc - m)%zc∧eW r b m=1) ∨
   ((r+r) / zc=0∧bw ((r+r)%zc+b) m 0=0∧fG r b m=((r+r)%zc+b+zc - m)%zc∧eW r b m=1):=by
  by_cases h:r+r+b<m
  ·exact .inl (abx hr hm hb h)
  ·obtain⟨e1|⟨e1,e1'⟩,e2,e3⟩:=cQ hr hm hb (by omega)
   ·exact .inr (.inl ⟨e1,rfl,e2,e3⟩)
   ·exact .inr (.inr ⟨e1,e1',e2,e3⟩)
 generalize (r+r) / zc=c at *;generalize bw ((r+r)%zc+b) m 0=l at *;generalize ((r+r)%zc+b+zc - m)%zc=y at *;generalize (r+r)%zc+b=X1 at *;generalize (r+r)%zc=X at *
 rcases hcase with ⟨rfl,rfl,e3,e4⟩|⟨rfl,-,e3,e4⟩|⟨rfl,rfl,e3,e4⟩
 all_goals
  rw[e3,e4];clear e3 e4
  go_enter Tryz.func146,Tryz.ntmps146
  go_wp2_with (first|(go_at_call 141;refine (hA _).mono ?_;rintro e w1 ⟨rfl,hb1⟩;have hbw:Ext w w1:=((((Ext.rfl' w).alloc' _).alloc' _).alloc' _).trans' hb1;have g5:Blk w1 (w.heap.size+1) 24 (zb m):=((Blk.new' (by simp)).alloc _).below hb1 (by simp);have g6:Blk w1 (w.heap.size+1+1) 24 tm:=(Blk.new' (by simp)).below hb1 (by simp);have g6_l:=g6.lt;have g5_0:=g5.cell_at (i:=0) rfl;have g5_1:=g5.cell_at (i:=1) rfl;have g5_2:=g5.cell_at (i:=2) rfl;have g5_3:=g5.cell_at (i:=3) rfl;have g5_f:=g5.frozen;have g5_l:=g5.lt;have g5_m:=Nat.lt_succ_of_lt g5_l;have g5_n:=Nat.lt_succ_of_lt g5_m)|(go_at_call 36;refine (hS _).mono ?_;rintro e w2 ⟨rfl,hb2⟩;have hbw2:Ext w w2:=(hbw.alloc' _).trans' hb2;have g8:Blk w2 w1.heap.size 24 (zb X1):=(Blk.new w1 _ (zb X1)).below hb2 (by simp);have g8_0:=g8.cell_at (i:=0) rfl;have g8_1:=g8.cell_at (i:=1) rfl;have g8_2:=g8.cell_at (i:=2) rfl;have g8_3:=g8.cell_at (i:=3) rfl;have g8_f:=g8.frozen;have g8_l:=g8.lt;have g8_m:=Nat.lt_succ_of_lt g8_l;have g8_n:=Nat.lt_succ_of_lt g8_m;have g6' : Blk w2 (w.heap.size+1+1) 24 tm:=(g6.alloc _).below hb2 (by simp;omega);have g6'_0:=g6'.cell_at (i:=0) rfl;have g6'_1:=g6'.cell_at (i:=1) rfl;have g6'_2:=g6'.cell_at (i:=2) rfl;have g6'_3:=g6'.cell_at (i:=3) rfl;have g6'_f:=g6'.frozen;have g6'_l:=g6'.lt;have g6'_m:=Nat.lt_succ_of_lt g6'_l;have g6'_n:=Nat.lt_succ_of_lt g6'_m))
  have hsz:=hbw2.size;refine bodyPost_ret (v:=.tuple #[ze _,.int .u64 _]) ?_ rfl ⟨rfl,?_⟩
  ·simp[results,Tryz.results146,go_sem,g6'_0,g6'_1,g6'_2,g6'_3,g6'_l]
  ·((repeat' (with_reducible first|exact hbw2|refine Below.drew ?_|refine Below.drewN' ?_ _|refine Below.setCell ?_ ?_ _|refine Below.alloc ?_ ?_ _))<;>(first|omega|(simp;done)|(simp;omega)))
end
end Go.Proofs.YtegjemedanccoaaGreatDoor
