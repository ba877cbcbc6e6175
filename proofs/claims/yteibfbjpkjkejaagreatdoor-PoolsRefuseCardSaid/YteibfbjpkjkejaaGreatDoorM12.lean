/- Part 12 of the proof. -/
import Derived.Test.YteibfbjpkjkejaaGreatDoorM11
import Derived.Laws.BitsAllLaws
set_option linter.unusedSimpArgs false
set_option linter.unusedVariables false
set_option maxHeartbeats 8000000
namespace Go.Proofs.YteibfbjpkjkejaaGreatDoor
section
open Go.RowKit
def uI (a:Nat):Bool:=decide (a<18446744073709551616)
theorem jC (a:Nat):decide (((zF a:Nat):Int)≤64)=uI a:=by
 unfold uI;have:=yK (x:=a) (k:=64);rw[show (2:Nat) ^ 64=18446744073709551616 by decide] at this
 by_cases h:a<18446744073709551616<;>simp[h]<;>omega
theorem vx (a:Nat) (ha:a<zd) (w:World) :
  Calls Tryz.prog 149 #[zi a] w fun e w'=>e=.returned (.bool (uI a))∧Below w.heap.size w w':=by
 have hs:=jC a
 go_enter Tryz.func149,Tryz.ntmps149
 go_wp2_with (go_at_call 78;refine (uV a ha _).mono ?_;rintro e w1 ⟨rfl,hb1⟩)
 go_ret
 exact⟨by simp,((Ext.rfl' w).alloc' _).trans' hb1⟩
abbrev te:List Value:=[.int .u64 0,.int .u64 0,.int .u64 0,.int .u64 0]
theorem or_bit (r b:Nat) (hr:r<zd) (hb:b≤1) :
  bits .or .u64 ((wd 0 ((r+r)%zd):Nat):Int) (b:Int)=((wd 0 ((r+r)%zd+b):Nat):Int) ∧
  wd 1 ((r+r)%zd)=wd 1 ((r+r)%zd+b)∧wd 2 ((r+r)%zd)=wd 2 ((r+r)%zd+b)∧wd 3 ((r+r)%zd)=wd 3 ((r+r)%zd+b)∧(r+r)%zd+b<zd:=by
 have hev:∃ k,(r+r)%zd=2*k∧2*k+b<zd:=by
  refine⟨r%57896044618658097711785492504343953926634992332820282019728792003956564819968,?_,?_⟩
  ·rw[← Nat.two_mul,show zd=2*57896044618658097711785492504343953926634992332820282019728792003956564819968 by decide,Nat.mul_mod_mul_left]
  ·have:=Nat.mod_lt r (show 0<57896044618658097711785492504343953926634992332820282019728792003956564819968 by omega);have h:2*(r%57896044618658097711785492504343953926634992332820282019728792003956564819968)+b<115792089237316195423570985008687907853269984665640564039457584007913129639936:=by omega
   exact h
 obtain⟨k,hk,hlt⟩:=hev;rw[hk];have hev2:∃ j,wd 0 (2*k)=2*j∧wd 0 (2*k+b)=2*j+b:=⟨wd 0 (2*k) / 2,by simp only[wd];omega,by simp only[wd];omega⟩;obtain⟨j,hj,hj2⟩:=hev2;have hjl:=yf 0 (2*k);refine⟨?_,?_,?_,?_,hlt⟩
 ·rw[u64_or_nat _ _ (yf _ _) (by omega),hj,hj2];have:=Nat.two_pow_add_eq_or_of_lt (i:=1) (b:=b) (by omega) j;rw[← this]
 all_goals (simp only[wd];omega)
def eI (r b m:Nat):Nat:=(r+r+b)%m
def dv (r b m:Nat):Nat:=(r+r+b) / m
theorem ab1 {r b m:Nat} (hr:r<m) (hm:m<zd) (hb:b≤1) (h:r+r+b<m) :
  (r+r) / zd=0∧bw ((r+r)%zd+b) m 0=1∧eI r b m=(r+r)%zd+b∧dv r b m=0:=by
 have e:(r+r)%zd=r+r:=Nat.mod_eq_of_lt (by omega);refine⟨Nat.div_eq_of_lt (by omega),?_,?_,Nat.div_eq_of_lt h⟩
 ·rw[e];simp[bw];omega
 ·rw[e];exact Nat.mod_eq_of_lt h
theorem bz {r b m:Nat} (hr:r<m) (hm:m<zd) (hb:b≤1) (h:m≤r+r+b) :
  ((r+r) / zd=1∨((r+r) / zd=0∧bw ((r+r)%zd+b) m 0=0))∧eI r b m=((r+r)%zd+b+zd - m)%zd∧dv r b m=1:=by
 have hq:dv r b m=1:=by
  unfold dv;rw[Nat.div_eq_iff (by omega)];omega
 have hrm:eI r b m=r+r+b - m:=by
  unfold eI;rw[Nat.mod_eq_sub_mod h,Nat.mod_eq_of_lt (by omega)]
 rw[hrm,hq]
 by_cases hc:r+r<zd
 ·have e:(r+r)%zd=r+r:=Nat.mod_eq_of_lt hc;refine⟨.inr ⟨Nat.div_eq_of_lt hc,by rw[e];simp[bw];omega⟩,?_,rfl⟩;rw[e,show r+r+b+zd - m=(r+r+b - m)+zd by omega,Nat.add_mod_right,Nat.mod_eq_of_lt (by omega)]
 ·have e:(r+r)%zd=r+r - zd:=by rw[Nat.mod_eq_sub_mod (by omega),Nat.mod_eq_of_lt (by omega)]
  refine⟨.inl ?_,?_,rfl⟩
  ·rw[Nat.div_eq_iff (by unfold zd;omega)];omega
  ·rw[e,show r+r - zd+b+zd - m=r+r+b - m by omega,Nat.mod_eq_of_lt (by omega)]
theorem su (r b m:Nat) (hr:r<m) (hm:m<zd) (hb:b≤1) (w:World) :
  Calls Tryz.prog 152 #[zi r,.int .u64 (b:Int),zi m] w fun e w' =>
   e=.returned (.tuple #[zi (eI r b m),.int .u64 (dv r b m:Nat)])∧Below w.heap.size w w':=by
 have hrB:r<zd:=by omega
 obtain⟨o0,o1,o2,o3,hlt⟩:=or_bit r b hrB hb;have hA:=fun w=>nm r r hrB hrB w;have hS:=fun w=>tq ((r+r)%zd+b) m hlt hm w
 have hcase:((r+r) / zd=0∧bw ((r+r)%zd+b) m 0=1∧eI r b m=(r+r)%zd+b∧dv r b m=0) ∨
   ((r+r) / zd=1∧bw ((r+r)%zd+b) m 0=bw ((r+r)%zd+b) m 0∧eI r b m=((r+r)%zd+b+zd - m)%zd∧dv r b m=1) ∨
   ((r+r) / zd=0∧bw ((r+r)%zd+b) m 0=0∧eI r b m=((r+r)%zd+b+zd - m)%zd∧dv r b m=1):=by
  by_cases h:r+r+b<m
  ·exact .inl (ab1 hr hm hb h)
  ·obtain⟨e1|⟨e1,e1'⟩,e2,e3⟩:=bz hr hm hb (by omega)
   ·exact .inr (.inl ⟨e1,rfl,e2,e3⟩)
   ·exact .inr (.inr ⟨e1,e1',e2,e3⟩)
 generalize (r+r) / zd=c at *;generalize bw ((r+r)%zd+b) m 0=l at *;generalize ((r+r)%zd+b+zd - m)%zd=y at *;generalize (r+r)%zd+b=X1 at *;generalize (r+r)%zd=X at *
 rcases hcase with ⟨rfl,rfl,e3,e4⟩|⟨rfl,-,e3,e4⟩|⟨rfl,rfl,e3,e4⟩
 all_goals
  rw[e3,e4];clear e3 e4
  go_enter Tryz.func152,Tryz.ntmps152
  go_wp2_with (first|(go_at_call 157;refine (hA _).mono ?_;rintro e w1 ⟨rfl,hb1⟩;have hbw:Ext w w1:=((((Ext.rfl' w).alloc' _).alloc' _).alloc' _).trans' hb1;have g5:Blk w1 (w.heap.size+1) 24 (zb m):=((Blk.new' (by simp)).alloc _).below hb1 (by simp);have g6:Blk w1 (w.heap.size+1+1) 24 te:=(Blk.new' (by simp)).below hb1 (by simp);have g6_l:=g6.lt;have g5_0:=g5.cell_at (i:=0) rfl;have g5_1:=g5.cell_at (i:=1) rfl;have g5_2:=g5.cell_at (i:=2) rfl;have g5_3:=g5.cell_at (i:=3) rfl;have g5_f:=g5.frozen;have g5_l:=g5.lt;have g5_m:=Nat.lt_succ_of_lt g5_l;have g5_n:=Nat.lt_succ_of_lt g5_m)|(go_at_call 39;refine (hS _).mono ?_;rintro e w2 ⟨rfl,hb2⟩;have hbw2:Ext w w2:=(hbw.alloc' _).trans' hb2;have g8:Blk w2 w1.heap.size 24 (zb X1):=(Blk.new w1 _ (zb X1)).below hb2 (by simp);have g8_0:=g8.cell_at (i:=0) rfl;have g8_1:=g8.cell_at (i:=1) rfl;have g8_2:=g8.cell_at (i:=2) rfl;have g8_3:=g8.cell_at (i:=3) rfl;have g8_f:=g8.frozen;have g8_l:=g8.lt;have g8_m:=Nat.lt_succ_of_lt g8_l;have g8_n:=Nat.lt_succ_of_lt g8_m;have g6' : Blk w2 (w.heap.size+1+1) 24 te:=(g6.alloc _).below hb2 (by simp;omega);have g6'_0:=g6'.cell_at (i:=0) rfl;have g6'_1:=g6'.cell_at (i:=1) rfl;have g6'_2:=g6'.cell_at (i:=2) rfl;have g6'_3:=g6'.cell_at (i:=3) rfl;have g6'_f:=g6'.frozen;have g6'_l:=g6'.lt;have g6'_m:=Nat.lt_succ_of_lt g6'_l;have g6'_n:=Nat.lt_succ_of_lt g6'_m))
  have hsz:=hbw2.size;refine bodyPost_ret (v:=.tuple #[zi _,.int .u64 _]) ?_ rfl ⟨rfl,?_⟩
  ·simp[results,Tryz.results152,go_sem,g6'_0,g6'_1,g6'_2,g6'_3,g6'_l]
  ·((repeat' (with_reducible first|exact hbw2|refine Below.drew ?_|refine Below.drewN' ?_ _|refine Below.setCell ?_ ?_ _|refine Below.alloc ?_ ?_ _))<;>(first|omega|(simp;done)|(simp;omega)))
end
end Go.Proofs.YteibfbjpkjkejaaGreatDoor
