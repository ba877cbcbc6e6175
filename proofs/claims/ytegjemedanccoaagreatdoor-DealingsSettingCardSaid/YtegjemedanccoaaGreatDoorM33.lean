/- Part 33 of the proof. -/
import Derived.Test.YtegjemedanccoaaGreatDoorM31
import Derived.Test.YtegjemedanccoaaGreatDoorM30
set_option linter.unusedSimpArgs false
set_option linter.unusedVariables false
namespace Go.Proofs.YtegjemedanccoaaGreatDoor
section
open Go Go.RowKit Go.BigFrame
namespace Sx
attribute [local irreducible] DQ DQS WC WO WX wd
abbrev pfC (k:Nat × Nat):List Value:=yj k.1 k.2
theorem tf (k:Nat × Nat):(pfC k).length=8:=rfl
set_option maxHeartbeats 2000000
theorem jo (xs:List (Nat × Nat)) (pt:Option Addr) (c:Nat) (hn:xs.length≤100) :
  Fn Tryz.prog 23 [.slice pt xs.length c] (RdF zI (.slice pt xs.length c) xs) (acQ 34 xs.length (xs.length+1) (xs.flatMap zI++(yj 77 0))):=by
 have hadd:IntKind.i64.wrap ((xs.length:Int)+1)=((xs.length+1:Nat):Int):=zm (by omega) (by omega) (by omega);refine Fn.enter Tryz.func23 rfl rfl rfl ?_;intro w hw;obtain⟨pt',c',e,hpc⟩:=hw;cases e
 repeat (first|refine Ta ?_|(refine Tm ?_;intro _)|refine WO.does (zi rfl rfl hadd) ?_|(refine WO.makes (zV (l:=0) (c:=xs.length+1) rfl rfl (by omega) (by omega) (by omega)) ?_;intro g)|refine Tc ?_|exact Tz)
 refine WC.loopI (σ:=Nat) (fun i=>i≤xs.length) (fun i=>[(0,.slice pt xs.length c),(3,.slice (some ⟨g,0,none⟩) i (xs.length+1)),(4,.int .i64 (i:Int))]) (fun i=>[⟨g,34,(xs.take i).flatMap zI++mkz (xs.length+1 - i) (yj 0 0)⟩]) (fun i=>xs.length - i) 0 (fun i hi=>?_) (Nat.zero_le _)
 try dsimp only at hi ⊢
 by_cases hlt:i<xs.length
 ·obtain⟨x,hx⟩ : ∃ x,xs[i]?=some x:=⟨_,List.getElem?_eq_getElem hlt⟩
  rcases hpc with ⟨_,h0⟩|⟨b,o,rfl,hs⟩
  ·rw[h0] at hlt;simp at hlt
  have hadd2:IntKind.i64.wrap ((i:Int)+1)=((i+1:Nat):Int):=zm (by omega) (by omega) (by omega);have hcx:cut (xs.flatMap zI) (o+i*8 - o) 8=zI x:=by rw[Nat.add_sub_cancel_left];exact zq zE hx
  have hov:=rZ (f:=zI) (z:=yj 0 0) (m:=xs.length+1 - i) zE rfl hx (by omega);rw[show xs.length+1 - i - 1=xs.length+1 - (i+1) by omega] at hov;have hle:i*(yj 0 0).length+(zI x).length≤((xs.take i).flatMap zI++mkz (xs.length+1 - i) (yj 0 0)).length:=by
   rw[List.length_append,zt zE,zH,List.length_take,Nat.min_eq_left (by omega)];show i*8+8≤i*8+(xs.length+1 - i)*8;have:1*8≤(xs.length+1 - i)*8:=Nat.mul_le_mul_right _ (by omega);omega
  repeat (first|refine Tw ?_|(refine Tm ?_;intro _)|exact Tz)
  refine WC.dT rfl (by omega) ?_
  repeat (first|refine Ta ?_|(refine Tm ?_;intro _)|refine WO.does (za (o':=o+i*8) rfl rfl hlt rfl) ?_|refine WO.does (zj (vs:=zI x) (hs:=hs) (hle:=Nat.le_add_right _ _) (hc:=hcx)) ?_|(refine WO.makes (zd (t:=27) (cs:=zI x) rfl (by decide) rfl) ?_;intro g2)|refine WO.both (uQ (s:=undef) (z:=yj 0 0) rfl rfl (Rds.own (m:=8) Hs.here rfl) rfl (by omega) rfl (by repeat (first|exact Rp.here|apply Rp.there)) hov hle rfl (by decide)) ?_|refine WO.does (zi rfl rfl hadd2) ?_|refine Tc ?_|exact Tz)
  exact WX.metI (i+1) (hs:=⟨by show i+1≤xs.length;omega,by show xs.length - (i+1)<xs.length - i;omega⟩)
 ·have hi2:i=xs.length:=by omega
  subst hi2;have hov:=jl (f:=zI) (xs:=xs) (z:=yj 0 0) (s:=yj 77 0) zE rfl rfl;have hle:xs.length*(yj 0 0).length+(yj 77 0).length≤(xs.flatMap zI++mkz 1 (yj 0 0)).length:=by
   rw[List.length_append,zt zE,zH];show xs.length*8+8≤xs.length*8+1*8;omega
  rw[List.take_length,show xs.length+1 - xs.length=1 by omega]
  repeat (first|refine Tw ?_|(refine Tm ?_;intro _)|exact Tz)
  refine WC.dF rfl (by omega) ?_
  repeat (first|refine Ta ?_|(refine Tm ?_;intro _)|refine WO.does (zN (cs:=zb 77) rfl rfl (by kernel_rfl)) ?_|refine WO.does (rL (t:=34) (cs:=yj 77 0) rfl (by kernel_rfl)) ?_|(refine WO.makes (zd (t:=27) (cs:=yj 77 0) rfl (by decide) rfl) ?_;intro g2)|refine WO.both (uQ (s:=undef) (z:=yj 0 0) rfl rfl (Rds.own (m:=8) Hs.here rfl) rfl (by omega) rfl (by repeat (first|exact Rp.here|apply Rp.there)) hov hle rfl (by decide)) ?_|refine WO.does (yF (h:=xs.length) rfl rfl (by omega)) ?_|refine Tc ?_|exact Tz)
  exact WX.retC
theorem eR {α:Type} {f:α→List Value} {k:Nat} (hk:∀ x,(f x).length=k) {xs:List α} {r:List Value} {i:Nat} {x:α} (h:xs[i]?=some x):cut (xs.flatMap f++r) (i*k) k=f x:=by
 have hi:i<xs.length:=by
  rcases Nat.lt_or_ge i xs.length with h1|h1
  ·exact h1
  ·rw[List.getElem?_eq_none h1] at h;cases h
 have h1:=zq hk h;have hl:=zt hk xs;have h2:i*k+k≤xs.length*k:=by rw[← Nat.succ_mul];exact Nat.mul_le_mul_right _ hi
 unfold cut at *;rw[List.drop_append,List.take_append,List.length_drop];rw[h1,show k - ((xs.flatMap f).length - i*k)=0 by omega];simp
set_option maxHeartbeats 2000000
end Sx
end
end Go.Proofs.YtegjemedanccoaaGreatDoor
