/- Part 34 of the proof. -/
import Derived.Test.YteibfbjpkjkejaaGreatDoorM33
import Derived.Test.YteibfbjpkjkejaaGreatDoorM31
import Derived.Test.YteibfbjpkjkejaaGreatDoorM30
set_option linter.unusedSimpArgs false
set_option linter.unusedVariables false
namespace Go.Proofs.YteibfbjpkjkejaaGreatDoor
section
open Go Go.RowKit Go.BigFrame
namespace Sx
attribute [local irreducible] DQ DQS WC WO WX wd
abbrev pfC (k:Nat × Nat):List Value:=vh k.1 k.2
theorem v6 (k:Nat × Nat):(pfC k).length=8:=rfl
set_option maxHeartbeats 2000000
theorem qH (xs:List (Nat)) (pt:Option Addr) (c:Nat) (hn:xs.length≤100) :
  Fn Tryz.prog 23 [.slice pt xs.length c] (RdF zb (.slice pt xs.length c) xs) (acB 24 xs.length (xs.length+1) (xs.flatMap zb++(zb 77))):=by
 have hadd:IntKind.i64.wrap ((xs.length:Int)+1)=((xs.length+1:Nat):Int):=zt (by omega) (by omega) (by omega);refine Fn.enter Tryz.func23 rfl rfl rfl ?_;intro w hw;obtain⟨pt',c',e,hpc⟩:=hw;cases e
 repeat (first|refine Ta ?_|(refine Tm ?_;intro _)|refine WO.does (zl rfl rfl hadd) ?_|(refine WO.makes (zT (l:=0) (c:=xs.length+1) rfl rfl (by omega) (by omega) (by omega)) ?_;intro g)|refine Tc ?_|exact Tz)
 refine WC.loopI (σ:=Nat) (fun i=>i≤xs.length) (fun i=>[(0,.slice pt xs.length c),(3,.slice (some ⟨g,0,none⟩) i (xs.length+1)),(4,.int .i64 (i:Int))]) (fun i=>[⟨g,24,(xs.take i).flatMap zb++mkz (xs.length+1 - i) (zb 0)⟩]) (fun i=>xs.length - i) 0 (fun i hi=>?_) (Nat.zero_le _)
 try dsimp only at hi ⊢
 by_cases hlt:i<xs.length
 ·obtain⟨x,hx⟩ : ∃ x,xs[i]?=some x:=⟨_,List.getElem?_eq_getElem hlt⟩
  rcases hpc with ⟨_,h0⟩|⟨b,o,rfl,hs⟩
  ·rw[h0] at hlt;simp at hlt
  have hadd2:IntKind.i64.wrap ((i:Int)+1)=((i+1:Nat):Int):=zt (by omega) (by omega) (by omega);have hcx:cut (xs.flatMap zb) (o+i*4 - o) 4=zb x:=by rw[Nat.add_sub_cancel_left];exact zS zO hx
  have hov:=tH (f:=zb) (z:=zb 0) (m:=xs.length+1 - i) zO rfl hx (by omega);rw[show xs.length+1 - i - 1=xs.length+1 - (i+1) by omega] at hov;have hle:i*(zb 0).length+(zb x).length≤((xs.take i).flatMap zb++mkz (xs.length+1 - i) (zb 0)).length:=by
   rw[List.length_append,zC zO,zH,List.length_take,Nat.min_eq_left (by omega)];show i*4+4≤i*4+(xs.length+1 - i)*4;have:1*4≤(xs.length+1 - i)*4:=Nat.mul_le_mul_right _ (by omega);omega
  repeat (first|refine Tw ?_|(refine Tm ?_;intro _)|exact Tz)
  refine WC.dT rfl (by omega) ?_
  repeat (first|refine Ta ?_|(refine Tm ?_;intro _)|refine WO.does (zc (o':=o+i*4) rfl rfl hlt rfl) ?_|refine WO.does (zn (vs:=zb x) (hs:=hs) (hle:=Nat.le_add_right _ _) (hc:=hcx)) ?_|(refine WO.makes (ze (t:=45) (cs:=zb x) rfl (by decide) rfl) ?_;intro g2)|refine WO.both (vV (s:=undef) (z:=zb 0) rfl rfl (Rds.own (m:=4) Hs.here rfl) rfl (by omega) rfl (by repeat (first|exact Rp.here|apply Rp.there)) hov hle rfl (by decide)) ?_|refine WO.does (zl rfl rfl hadd2) ?_|refine Tc ?_|exact Tz)
  exact WX.metI (i+1) (hs:=⟨by show i+1≤xs.length;omega,by show xs.length - (i+1)<xs.length - i;omega⟩)
 ·have hi2:i=xs.length:=by omega
  subst hi2;have hov:=qZ (f:=zb) (xs:=xs) (z:=zb 0) (s:=zb 77) zO rfl rfl;have hle:xs.length*(zb 0).length+(zb 77).length≤(xs.flatMap zb++mkz 1 (zb 0)).length:=by
   rw[List.length_append,zC zO,zH];show xs.length*4+4≤xs.length*4+1*4;omega
  rw[List.take_length,show xs.length+1 - xs.length=1 by omega]
  repeat (first|refine Tw ?_|(refine Tm ?_;intro _)|exact Tz)
  refine WC.dF rfl (by omega) ?_
  repeat (first|refine Ta ?_|(refine Tm ?_;intro _)|refine WO.does (zy (cs:=zb 77) rfl rfl (by kernel_rfl)) ?_|(refine WO.makes (ze (t:=45) (cs:=zb 77) rfl (by decide) rfl) ?_;intro g2)|refine WO.both (vV (s:=undef) (z:=zb 0) rfl rfl (Rds.own (m:=4) Hs.here rfl) rfl (by omega) rfl (by repeat (first|exact Rp.here|apply Rp.there)) hov hle rfl (by decide)) ?_|refine WO.does (vd (h:=xs.length) rfl rfl (by omega)) ?_|refine Tc ?_|exact Tz)
  exact WX.retC
theorem oL (xs:List (Nat × Nat)) (pt:Option Addr) (c:Nat) (hn:xs.length≤100) :
  Fn Tryz.prog 24 [.slice pt xs.length c] (RdF pfC (.slice pt xs.length c) xs) (acB 96 xs.length (xs.length+1) (xs.flatMap pfC++(vh 77 0))):=by
 have hadd:IntKind.i64.wrap ((xs.length:Int)+1)=((xs.length+1:Nat):Int):=zt (by omega) (by omega) (by omega);refine Fn.enter Tryz.func24 rfl rfl rfl ?_;intro w hw;obtain⟨pt',c',e,hpc⟩:=hw;cases e
 repeat (first|refine Ta ?_|(refine Tm ?_;intro _)|refine WO.does (zl rfl rfl hadd) ?_|(refine WO.makes (zT (l:=0) (c:=xs.length+1) rfl rfl (by omega) (by omega) (by omega)) ?_;intro g)|refine Tc ?_|exact Tz)
 refine WC.loopI (σ:=Nat) (fun i=>i≤xs.length) (fun i=>[(0,.slice pt xs.length c),(3,.slice (some ⟨g,0,none⟩) i (xs.length+1)),(4,.int .i64 (i:Int))]) (fun i=>[⟨g,96,(xs.take i).flatMap pfC++mkz (xs.length+1 - i) (vh 0 0)⟩]) (fun i=>xs.length - i) 0 (fun i hi=>?_) (Nat.zero_le _)
 try dsimp only at hi ⊢
 by_cases hlt:i<xs.length
 ·obtain⟨x,hx⟩ : ∃ x,xs[i]?=some x:=⟨_,List.getElem?_eq_getElem hlt⟩
  rcases hpc with ⟨_,h0⟩|⟨b,o,rfl,hs⟩
  ·rw[h0] at hlt;simp at hlt
  have hadd2:IntKind.i64.wrap ((i:Int)+1)=((i+1:Nat):Int):=zt (by omega) (by omega) (by omega);have hcx:cut (xs.flatMap pfC) (o+i*8 - o) 8=pfC x:=by rw[Nat.add_sub_cancel_left];exact zS v6 hx
  have hov:=tH (f:=pfC) (z:=vh 0 0) (m:=xs.length+1 - i) v6 rfl hx (by omega);rw[show xs.length+1 - i - 1=xs.length+1 - (i+1) by omega] at hov;have hle:i*(vh 0 0).length+(pfC x).length≤((xs.take i).flatMap pfC++mkz (xs.length+1 - i) (vh 0 0)).length:=by
   rw[List.length_append,zC v6,zH,List.length_take,Nat.min_eq_left (by omega)];show i*8+8≤i*8+(xs.length+1 - i)*8;have:1*8≤(xs.length+1 - i)*8:=Nat.mul_le_mul_right _ (by omega);omega
  repeat (first|refine Tw ?_|(refine Tm ?_;intro _)|exact Tz)
  refine WC.dT rfl (by omega) ?_
  repeat (first|refine Ta ?_|(refine Tm ?_;intro _)|refine WO.does (zc (o':=o+i*8) rfl rfl hlt rfl) ?_|refine WO.does (zn (vs:=pfC x) (hs:=hs) (hle:=Nat.le_add_right _ _) (hc:=hcx)) ?_|(refine WO.makes (ze (t:=46) (cs:=pfC x) rfl (by decide) rfl) ?_;intro g2)|refine WO.both (vV (s:=undef) (z:=vh 0 0) rfl rfl (Rds.own (m:=8) Hs.here rfl) rfl (by omega) rfl (by repeat (first|exact Rp.here|apply Rp.there)) hov hle rfl (by decide)) ?_|refine WO.does (zl rfl rfl hadd2) ?_|refine Tc ?_|exact Tz)
  exact WX.metI (i+1) (hs:=⟨by show i+1≤xs.length;omega,by show xs.length - (i+1)<xs.length - i;omega⟩)
 ·have hi2:i=xs.length:=by omega
  subst hi2;have hov:=qZ (f:=pfC) (xs:=xs) (z:=vh 0 0) (s:=vh 77 0) v6 rfl rfl;have hle:xs.length*(vh 0 0).length+(vh 77 0).length≤(xs.flatMap pfC++mkz 1 (vh 0 0)).length:=by
   rw[List.length_append,zC v6,zH];show xs.length*8+8≤xs.length*8+1*8;omega
  rw[List.take_length,show xs.length+1 - xs.length=1 by omega]
  repeat (first|refine Tw ?_|(refine Tm ?_;intro _)|exact Tz)
  refine WC.dF rfl (by omega) ?_
  repeat (first|refine Ta ?_|(refine Tm ?_;intro _)|refine WO.does (zy (cs:=zb 77) rfl rfl (by kernel_rfl)) ?_|refine WO.does (rW (t:=96) (cs:=vh 77 0) rfl (by kernel_rfl)) ?_|(refine WO.makes (ze (t:=46) (cs:=vh 77 0) rfl (by decide) rfl) ?_;intro g2)|refine WO.both (vV (s:=undef) (z:=vh 0 0) rfl rfl (Rds.own (m:=8) Hs.here rfl) rfl (by omega) rfl (by repeat (first|exact Rp.here|apply Rp.there)) hov hle rfl (by decide)) ?_|refine WO.does (vd (h:=xs.length) rfl rfl (by omega)) ?_|refine Tc ?_|exact Tz)
  exact WX.retC
theorem eO {α:Type} {f:α→List Value} {k:Nat} (hk:∀ x,(f x).length=k) {xs:List α} {r:List Value} {i:Nat} {x:α} (h:xs[i]?=some x):cut (xs.flatMap f++r) (i*k) k=f x:=by
 have hi:i<xs.length:=by
  rcases Nat.lt_or_ge i xs.length with h1|h1
  ·exact h1
  ·rw[List.getElem?_eq_none h1] at h;cases h
 have h1:=zS hk h;have hl:=zC hk xs;have h2:i*k+k≤xs.length*k:=by rw[← Nat.succ_mul];exact Nat.mul_le_mul_right _ hi
 unfold cut at *;rw[List.drop_append,List.take_append,List.length_drop];rw[h1,show k - ((xs.flatMap f).length - i*k)=0 by omega];simp
set_option maxHeartbeats 2000000
end Sx
end
end Go.Proofs.YteibfbjpkjkejaaGreatDoor
