/- Part 37 of the proof. -/
import Derived.Test.YtbbppkkhidkjpaaGreatDoorM35
import Derived.Test.YtbbppkkhidkjpaaGreatDoorM33
set_option linter.unusedSimpArgs false
set_option linter.unusedVariables false
namespace Go.Proofs.YtbbppkkhidkjpaaGreatDoor
section
open Go Go.RowKit Go.BigFrame
namespace Sx
attribute [local irreducible] DQ DQS WC WO WX wd
abbrev pfC (k:Nat × Nat):List Value:=yO k.1 k.2
theorem vu (k:Nat × Nat):(pfC k).length=8:=rfl
set_option maxHeartbeats 2000000
theorem rq (xs:List (Nat)) (pt:Option Addr) (c:Nat) (hn:xs.length≤100) :
  Fn Tryz.prog 7 [.slice pt xs.length c] (RdF zc (.slice pt xs.length c) xs) (abO 24 xs.length (xs.length+1) (xs.flatMap zc++(zc 77))):=by
 have hadd:IntKind.i64.wrap ((xs.length:Int)+1)=((xs.length+1:Nat):Int):=zl (by omega) (by omega) (by omega);refine Fn.enter Tryz.func7 rfl rfl rfl ?_;intro w hw;obtain⟨pt',c',e,hpc⟩:=hw;cases e
 repeat (first|refine Ta ?_|(refine Tm ?_;intro _)|refine WO.does (zh rfl rfl hadd) ?_|(refine WO.makes (zY (l:=0) (c:=xs.length+1) rfl rfl (by omega) (by omega) (by omega)) ?_;intro g)|refine Tc ?_|exact Tz)
 refine WC.loopI (σ:=Nat) (fun i=>i≤xs.length) (fun i=>[(0,.slice pt xs.length c),(3,.slice (some ⟨g,0,none⟩) i (xs.length+1)),(4,.int .i64 (i:Int))]) (fun i=>[⟨g,24,(xs.take i).flatMap zc++mkz (xs.length+1 - i) (zc 0)⟩]) (fun i=>xs.length - i) 0 (fun i hi=>?_) (Nat.zero_le _)
 try dsimp only at hi ⊢
 by_cases hlt:i<xs.length
 ·obtain⟨x,hx⟩ : ∃ x,xs[i]?=some x:=⟨_,List.getElem?_eq_getElem hlt⟩
  rcases hpc with ⟨_,h0⟩|⟨b,o,rfl,hs⟩
  ·rw[h0] at hlt;simp at hlt
  have hadd2:IntKind.i64.wrap ((i:Int)+1)=((i+1:Nat):Int):=zl (by omega) (by omega) (by omega);have hcx:cut (xs.flatMap zc) (o+i*4 - o) 4=zc x:=by rw[Nat.add_sub_cancel_left];exact zx zy hx
  have hov:=sT (f:=zc) (z:=zc 0) (m:=xs.length+1 - i) zy rfl hx (by omega);rw[show xs.length+1 - i - 1=xs.length+1 - (i+1) by omega] at hov;have hle:i*(zc 0).length+(zc x).length≤((xs.take i).flatMap zc++mkz (xs.length+1 - i) (zc 0)).length:=by
   rw[List.length_append,zG zy,zC,List.length_take,Nat.min_eq_left (by omega)];show i*4+4≤i*4+(xs.length+1 - i)*4;have:1*4≤(xs.length+1 - i)*4:=Nat.mul_le_mul_right _ (by omega);omega
  repeat (first|refine Tw ?_|(refine Tm ?_;intro _)|exact Tz)
  refine WC.dT rfl (by omega) ?_
  repeat (first|refine Ta ?_|(refine Tm ?_;intro _)|refine WO.does (za (o':=o+i*4) rfl rfl hlt rfl) ?_|refine WO.does (zk (vs:=zc x) (hs:=hs) (hle:=Nat.le_add_right _ _) (hc:=hcx)) ?_|(refine WO.makes (ze (t:=30) (cs:=zc x) rfl (by decide) rfl) ?_;intro g2)|refine WO.both (vM (s:=undef) (z:=zc 0) rfl rfl (Rds.own (m:=4) Hs.here rfl) rfl (by omega) rfl (by repeat (first|exact Rp.here|apply Rp.there)) hov hle rfl (by decide)) ?_|refine WO.does (zh rfl rfl hadd2) ?_|refine Tc ?_|exact Tz)
  exact WX.metI (i+1) (hs:=⟨by show i+1≤xs.length;omega,by show xs.length - (i+1)<xs.length - i;omega⟩)
 ·have hi2:i=xs.length:=by omega
  subst hi2;have hov:=rv (f:=zc) (xs:=xs) (z:=zc 0) (s:=zc 77) zy rfl rfl;have hle:xs.length*(zc 0).length+(zc 77).length≤(xs.flatMap zc++mkz 1 (zc 0)).length:=by
   rw[List.length_append,zG zy,zC];show xs.length*4+4≤xs.length*4+1*4;omega
  rw[List.take_length,show xs.length+1 - xs.length=1 by omega]
  repeat (first|refine Tw ?_|(refine Tm ?_;intro _)|exact Tz)
  refine WC.dF rfl (by omega) ?_
  repeat (first|refine Ta ?_|(refine Tm ?_;intro _)|refine WO.does (zM (cs:=zc 77) rfl rfl (by kernel_rfl)) ?_|(refine WO.makes (ze (t:=30) (cs:=zc 77) rfl (by decide) rfl) ?_;intro g2)|refine WO.both (vM (s:=undef) (z:=zc 0) rfl rfl (Rds.own (m:=4) Hs.here rfl) rfl (by omega) rfl (by repeat (first|exact Rp.here|apply Rp.there)) hov hle rfl (by decide)) ?_|refine WO.does (yh (h:=xs.length) rfl rfl (by omega)) ?_|refine Tc ?_|exact Tz)
  exact WX.retC
theorem iJ (xs:List (Nat × Nat)) (pt:Option Addr) (c:Nat) (hn:xs.length≤100) :
  Fn Tryz.prog 17 [.slice pt xs.length c] (RdF vm (.slice pt xs.length c) xs) (abO 70 xs.length (xs.length+1) (xs.flatMap vm++(yO 77 0))):=by
 have hadd:IntKind.i64.wrap ((xs.length:Int)+1)=((xs.length+1:Nat):Int):=zl (by omega) (by omega) (by omega);refine Fn.enter Tryz.func17 rfl rfl rfl ?_;intro w hw;obtain⟨pt',c',e,hpc⟩:=hw;cases e
 repeat (first|refine Ta ?_|(refine Tm ?_;intro _)|refine WO.does (zh rfl rfl hadd) ?_|(refine WO.makes (zY (l:=0) (c:=xs.length+1) rfl rfl (by omega) (by omega) (by omega)) ?_;intro g)|refine Tc ?_|exact Tz)
 refine WC.loopI (σ:=Nat) (fun i=>i≤xs.length) (fun i=>[(0,.slice pt xs.length c),(3,.slice (some ⟨g,0,none⟩) i (xs.length+1)),(4,.int .i64 (i:Int))]) (fun i=>[⟨g,70,(xs.take i).flatMap vm++mkz (xs.length+1 - i) (yO 0 0)⟩]) (fun i=>xs.length - i) 0 (fun i hi=>?_) (Nat.zero_le _)
 try dsimp only at hi ⊢
 by_cases hlt:i<xs.length
 ·obtain⟨x,hx⟩ : ∃ x,xs[i]?=some x:=⟨_,List.getElem?_eq_getElem hlt⟩
  rcases hpc with ⟨_,h0⟩|⟨b,o,rfl,hs⟩
  ·rw[h0] at hlt;simp at hlt
  have hadd2:IntKind.i64.wrap ((i:Int)+1)=((i+1:Nat):Int):=zl (by omega) (by omega) (by omega);have hcx:cut (xs.flatMap vm) (o+i*8 - o) 8=vm x:=by rw[Nat.add_sub_cancel_left];exact zx yo hx
  have hov:=sT (f:=vm) (z:=yO 0 0) (m:=xs.length+1 - i) yo rfl hx (by omega);rw[show xs.length+1 - i - 1=xs.length+1 - (i+1) by omega] at hov;have hle:i*(yO 0 0).length+(vm x).length≤((xs.take i).flatMap vm++mkz (xs.length+1 - i) (yO 0 0)).length:=by
   rw[List.length_append,zG yo,zC,List.length_take,Nat.min_eq_left (by omega)];show i*8+8≤i*8+(xs.length+1 - i)*8;have:1*8≤(xs.length+1 - i)*8:=Nat.mul_le_mul_right _ (by omega);omega
  repeat (first|refine Tw ?_|(refine Tm ?_;intro _)|exact Tz)
  refine WC.dT rfl (by omega) ?_
  repeat (first|refine Ta ?_|(refine Tm ?_;intro _)|refine WO.does (za (o':=o+i*8) rfl rfl hlt rfl) ?_|refine WO.does (zk (vs:=vm x) (hs:=hs) (hle:=Nat.le_add_right _ _) (hc:=hcx)) ?_|(refine WO.makes (ze (t:=27) (cs:=vm x) rfl (by decide) rfl) ?_;intro g2)|refine WO.both (vM (s:=undef) (z:=yO 0 0) rfl rfl (Rds.own (m:=8) Hs.here rfl) rfl (by omega) rfl (by repeat (first|exact Rp.here|apply Rp.there)) hov hle rfl (by decide)) ?_|refine WO.does (zh rfl rfl hadd2) ?_|refine Tc ?_|exact Tz)
  exact WX.metI (i+1) (hs:=⟨by show i+1≤xs.length;omega,by show xs.length - (i+1)<xs.length - i;omega⟩)
 ·have hi2:i=xs.length:=by omega
  subst hi2;have hov:=rv (f:=vm) (xs:=xs) (z:=yO 0 0) (s:=yO 77 0) yo rfl rfl;have hle:xs.length*(yO 0 0).length+(yO 77 0).length≤(xs.flatMap vm++mkz 1 (yO 0 0)).length:=by
   rw[List.length_append,zG yo,zC];show xs.length*8+8≤xs.length*8+1*8;omega
  rw[List.take_length,show xs.length+1 - xs.length=1 by omega]
  repeat (first|refine Tw ?_|(refine Tm ?_;intro _)|exact Tz)
  refine WC.dF rfl (by omega) ?_
  repeat (first|refine Ta ?_|(refine Tm ?_;intro _)|refine WO.does (zM (cs:=zc 77) rfl rfl (by kernel_rfl)) ?_|refine WO.does (tI (t:=70) (cs:=yO 77 0) rfl (by kernel_rfl)) ?_|(refine WO.makes (ze (t:=27) (cs:=yO 77 0) rfl (by decide) rfl) ?_;intro g2)|refine WO.both (vM (s:=undef) (z:=yO 0 0) rfl rfl (Rds.own (m:=8) Hs.here rfl) rfl (by omega) rfl (by repeat (first|exact Rp.here|apply Rp.there)) hov hle rfl (by decide)) ?_|refine WO.does (yh (h:=xs.length) rfl rfl (by omega)) ?_|refine Tc ?_|exact Tz)
  exact WX.retC
theorem mT (xs:List (Nat × Nat)) (pt:Option Addr) (c:Nat) (hn:xs.length≤100) :
  Fn Tryz.prog 18 [.slice pt xs.length c] (RdF pfC (.slice pt xs.length c) xs) (abO 67 xs.length (xs.length+1) (xs.flatMap pfC++(yO 77 0))):=by
 have hadd:IntKind.i64.wrap ((xs.length:Int)+1)=((xs.length+1:Nat):Int):=zl (by omega) (by omega) (by omega);refine Fn.enter Tryz.func18 rfl rfl rfl ?_;intro w hw;obtain⟨pt',c',e,hpc⟩:=hw;cases e
 repeat (first|refine Ta ?_|(refine Tm ?_;intro _)|refine WO.does (zh rfl rfl hadd) ?_|(refine WO.makes (zY (l:=0) (c:=xs.length+1) rfl rfl (by omega) (by omega) (by omega)) ?_;intro g)|refine Tc ?_|exact Tz)
 refine WC.loopI (σ:=Nat) (fun i=>i≤xs.length) (fun i=>[(0,.slice pt xs.length c),(3,.slice (some ⟨g,0,none⟩) i (xs.length+1)),(4,.int .i64 (i:Int))]) (fun i=>[⟨g,67,(xs.take i).flatMap pfC++mkz (xs.length+1 - i) (yO 0 0)⟩]) (fun i=>xs.length - i) 0 (fun i hi=>?_) (Nat.zero_le _)
 try dsimp only at hi ⊢
 by_cases hlt:i<xs.length
 ·obtain⟨x,hx⟩ : ∃ x,xs[i]?=some x:=⟨_,List.getElem?_eq_getElem hlt⟩
  rcases hpc with ⟨_,h0⟩|⟨b,o,rfl,hs⟩
  ·rw[h0] at hlt;simp at hlt
  have hadd2:IntKind.i64.wrap ((i:Int)+1)=((i+1:Nat):Int):=zl (by omega) (by omega) (by omega);have hcx:cut (xs.flatMap pfC) (o+i*8 - o) 8=pfC x:=by rw[Nat.add_sub_cancel_left];exact zx vu hx
  have hov:=sT (f:=pfC) (z:=yO 0 0) (m:=xs.length+1 - i) vu rfl hx (by omega);rw[show xs.length+1 - i - 1=xs.length+1 - (i+1) by omega] at hov;have hle:i*(yO 0 0).length+(pfC x).length≤((xs.take i).flatMap pfC++mkz (xs.length+1 - i) (yO 0 0)).length:=by
   rw[List.length_append,zG vu,zC,List.length_take,Nat.min_eq_left (by omega)];show i*8+8≤i*8+(xs.length+1 - i)*8;have:1*8≤(xs.length+1 - i)*8:=Nat.mul_le_mul_right _ (by omega);omega
  repeat (first|refine Tw ?_|(refine Tm ?_;intro _)|exact Tz)
  refine WC.dT rfl (by omega) ?_
  repeat (first|refine Ta ?_|(refine Tm ?_;intro _)|refine WO.does (za (o':=o+i*8) rfl rfl hlt rfl) ?_|refine WO.does (zk (vs:=pfC x) (hs:=hs) (hle:=Nat.le_add_right _ _) (hc:=hcx)) ?_|(refine WO.makes (ze (t:=31) (cs:=pfC x) rfl (by decide) rfl) ?_;intro g2)|refine WO.both (vM (s:=undef) (z:=yO 0 0) rfl rfl (Rds.own (m:=8) Hs.here rfl) rfl (by omega) rfl (by repeat (first|exact Rp.here|apply Rp.there)) hov hle rfl (by decide)) ?_|refine WO.does (zh rfl rfl hadd2) ?_|refine Tc ?_|exact Tz)
  exact WX.metI (i+1) (hs:=⟨by show i+1≤xs.length;omega,by show xs.length - (i+1)<xs.length - i;omega⟩)
 ·have hi2:i=xs.length:=by omega
  subst hi2;have hov:=rv (f:=pfC) (xs:=xs) (z:=yO 0 0) (s:=yO 77 0) vu rfl rfl;have hle:xs.length*(yO 0 0).length+(yO 77 0).length≤(xs.flatMap pfC++mkz 1 (yO 0 0)).length:=by
   rw[List.length_append,zG vu,zC];show xs.length*8+8≤xs.length*8+1*8;omega
  rw[List.take_length,show xs.length+1 - xs.length=1 by omega]
  repeat (first|refine Tw ?_|(refine Tm ?_;intro _)|exact Tz)
  refine WC.dF rfl (by omega) ?_
  repeat (first|refine Ta ?_|(refine Tm ?_;intro _)|refine WO.does (zM (cs:=zc 77) rfl rfl (by kernel_rfl)) ?_|refine WO.does (tI (t:=67) (cs:=yO 77 0) rfl (by kernel_rfl)) ?_|(refine WO.makes (ze (t:=31) (cs:=yO 77 0) rfl (by decide) rfl) ?_;intro g2)|refine WO.both (vM (s:=undef) (z:=yO 0 0) rfl rfl (Rds.own (m:=8) Hs.here rfl) rfl (by omega) rfl (by repeat (first|exact Rp.here|apply Rp.there)) hov hle rfl (by decide)) ?_|refine WO.does (yh (h:=xs.length) rfl rfl (by omega)) ?_|refine Tc ?_|exact Tz)
  exact WX.retC
theorem qX {α:Type} {f:α→List Value} {k:Nat} (hk:∀ x,(f x).length=k) {xs:List α} {r:List Value} {i:Nat} {x:α} (h:xs[i]?=some x):cut (xs.flatMap f++r) (i*k) k=f x:=by
 have hi:i<xs.length:=by
  rcases Nat.lt_or_ge i xs.length with h1|h1
  ·exact h1
  ·rw[List.getElem?_eq_none h1] at h;cases h
 have h1:=zx hk h;have hl:=zG hk xs;have h2:i*k+k≤xs.length*k:=by rw[← Nat.succ_mul];exact Nat.mul_le_mul_right _ hi
 unfold cut at *;rw[List.drop_append,List.take_append,List.length_drop];rw[h1,show k - ((xs.flatMap f).length - i*k)=0 by omega];simp
theorem qU {α:Type} {f:α→List Value} {k:Nat} (hk:∀ x,(f x).length=k) {xs:List α} {r:List Value} (hr:r.length=k):cut (xs.flatMap f++r) (xs.length*k) k=r:=by
 rw[← zG hk xs,← hr];exact d8 (k:=k)
set_option maxHeartbeats 2000000
theorem rB (xs:List (Nat)) (pt:Option Addr) (c bt:Nat) (hn:xs.length≤100) :
  Fn Tryz.prog 16 [.slice (some ⟨bt,0,none⟩) xs.length (xs.length+1),.slice pt xs.length c] (fun w=>Seg w bt 0 (xs.flatMap zc++(zc 77))∧RdF zc (.slice pt xs.length c) xs w) (Is (.bool true)):=by
 have hadd:IntKind.i64.wrap ((xs.length:Int)+1)=((xs.length+1:Nat):Int):=zl (by omega) (by omega) (by omega);have d0:decide ((xs.length:Int)≠(xs.length:Int))=false:=decide_eq_false (fun h=>h rfl);have d1:decide (((xs.length+1:Nat):Int)≤(xs.length:Int))=false:=decide_eq_false (by omega);refine Fn.enter Tryz.func16 rfl rfl rfl ?_;intro w hw;obtain⟨hwT,pt',c',e,hpc⟩:=hw;cases e
 repeat (first|refine Tw ?_|(refine Tm ?_;intro _)|exact Tz)
 rw[d0]
 repeat (first|refine Ta ?_|(refine Tm ?_;intro _)|refine WO.does (sW rfl) ?_|refine Tc ?_|exact Tz)
 rw[d1]
 repeat (first|refine Tw ?_|(refine Tm ?_;intro _)|exact Tz)
 refine WC.loopI (σ:=Nat) (fun i=>i≤xs.length) (fun i=>[(0,.slice (some ⟨bt,0,none⟩) xs.length (xs.length+1)),(1,.slice pt xs.length c),(5,.int .i64 (i:Int))]) (fun i=>[]) (fun i=>xs.length - i) 0 (fun i hi=>?_) (Nat.zero_le _)
 try dsimp only at hi ⊢
 by_cases hlt:i<xs.length
 ·obtain⟨x,hx⟩ : ∃ x,xs[i]?=some x:=⟨_,List.getElem?_eq_getElem hlt⟩
  rcases hpc with ⟨_,h0⟩|⟨b,o,rfl,hs⟩
  ·rw[h0] at hlt;simp at hlt
  have hadd2:IntKind.i64.wrap ((i:Int)+1)=((i+1:Nat):Int):=zl (by omega) (by omega) (by omega);have hcx:cut (xs.flatMap zc) (o+i*4 - o) 4=zc x:=by rw[Nat.add_sub_cancel_left];exact zx zy hx
  have hct:cut (xs.flatMap zc++(zc 77)) (0+i*4 - 0) 4=zc x:=by rw[Nat.zero_add,Nat.sub_zero];exact qX zy hx
  repeat (first|refine Tw ?_|(refine Tm ?_;intro _)|exact Tz)
  refine WC.dT rfl (by omega) ?_
  repeat (first|refine Tw ?_|(refine Tm ?_;intro _)|exact Tz)
  refine WC.adraw 9 (k:=?_)
  iterate 9 (first|refine Da ?_|refine DQ.does (fun s _=>za (o':=o+i*4) rfl rfl hlt rfl) Dp.const ?_|refine DQ.does (fun s _=>za (o':=0+i*4) rfl rfl hlt rfl) Dp.const ?_|refine DQ.does (fun s _=>zk (vs:=zc x) (hs:=hs) (hle:=Nat.le_add_right _ _) (hc:=hcx)) Dp.const ?_|refine DQ.does (fun s _=>zk (vs:=zc x) (hs:=hwT) (hle:=Nat.zero_le _) (hc:=hct)) Dp.const ?_|refine DQ.does (fun s _=>qo rfl rfl (fun w=>bR x w) (fun w=>ub _ _ _ _ _ w)) Dp.const ?_|refine Dc ?_)
  refine DQ.anil (k:=?_);intro sx _
  repeat (first|refine Ta ?_|(refine Tm ?_;intro _)|refine WO.does (zh rfl rfl hadd2) ?_|refine Tc ?_|exact Tz)
  exact WX.metI (i+1) (hs:=⟨by show i+1≤xs.length;omega,by show xs.length - (i+1)<xs.length - i;omega⟩)
 ·have hi2:i=xs.length:=by omega
  subst hi2;have hct:cut (xs.flatMap zc++(zc 77)) (0+xs.length*4 - 0) 4=zc 77:=by rw[Nat.zero_add,Nat.sub_zero];exact qU zy rfl
  have h77:(77:Nat)<zb:=vE (by decide)
  repeat (first|refine Tw ?_|(refine Tm ?_;intro _)|exact Tz)
  refine WC.dF rfl (by omega) ?_
  repeat (first|refine Ta ?_|(refine Tm ?_;intro _)|refine WO.does (zh rfl rfl hadd) ?_|refine WO.does (yh (h:=xs.length+1) rfl rfl (Nat.le_refl _)) ?_|refine WO.does (za (o':=0+xs.length*4) rfl rfl (Nat.lt_succ_self _) rfl) ?_|refine WO.does (zk (vs:=zc 77) (hs:=hwT) (hle:=Nat.zero_le _) (hc:=hct)) ?_|refine WO.does (zM (cs:=zc 77) rfl rfl (by kernel_rfl)) ?_|refine WO.does (zZ (ha:=h77) (hb:=h77)) ?_|refine Tc ?_|exact Tz)
theorem fg (xs:List (Nat × Nat)) (pt:Option Addr) (c bt:Nat) (hn:xs.length≤100) :
  Fn Tryz.prog 56 [.slice (some ⟨bt,0,none⟩) xs.length (xs.length+1),.slice pt xs.length c] (fun w=>Seg w bt 0 (xs.flatMap vm++(yO 77 0))∧RdF vm (.slice pt xs.length c) xs w) (Is (.bool true)):=by
 have hadd:IntKind.i64.wrap ((xs.length:Int)+1)=((xs.length+1:Nat):Int):=zl (by omega) (by omega) (by omega);have d0:decide ((xs.length:Int)≠(xs.length:Int))=false:=decide_eq_false (fun h=>h rfl);have d1:decide (((xs.length+1:Nat):Int)≤(xs.length:Int))=false:=decide_eq_false (by omega);refine Fn.enter Tryz.func56 rfl rfl rfl ?_;intro w hw;obtain⟨hwT,pt',c',e,hpc⟩:=hw;cases e
 repeat (first|refine Tw ?_|(refine Tm ?_;intro _)|exact Tz)
 rw[d0]
 repeat (first|refine Ta ?_|(refine Tm ?_;intro _)|refine WO.does (sW rfl) ?_|refine Tc ?_|exact Tz)
 rw[d1]
 repeat (first|refine Tw ?_|(refine Tm ?_;intro _)|exact Tz)
 refine WC.loopI (σ:=Nat) (fun i=>i≤xs.length) (fun i=>[(0,.slice (some ⟨bt,0,none⟩) xs.length (xs.length+1)),(1,.slice pt xs.length c),(5,.int .i64 (i:Int))]) (fun i=>[]) (fun i=>xs.length - i) 0 (fun i hi=>?_) (Nat.zero_le _)
 try dsimp only at hi ⊢
 by_cases hlt:i<xs.length
 ·obtain⟨x,hx⟩ : ∃ x,xs[i]?=some x:=⟨_,List.getElem?_eq_getElem hlt⟩
  rcases hpc with ⟨_,h0⟩|⟨b,o,rfl,hs⟩
  ·rw[h0] at hlt;simp at hlt
  have hadd2:IntKind.i64.wrap ((i:Int)+1)=((i+1:Nat):Int):=zl (by omega) (by omega) (by omega);have hcx:cut (xs.flatMap vm) (o+i*8 - o) 8=vm x:=by rw[Nat.add_sub_cancel_left];exact zx yo hx
  have hct:cut (xs.flatMap vm++(yO 77 0)) (0+i*8 - 0) 8=vm x:=by rw[Nat.zero_add,Nat.sub_zero];exact qX yo hx
  repeat (first|refine Tw ?_|(refine Tm ?_;intro _)|exact Tz)
  refine WC.dT rfl (by omega) ?_
  repeat (first|refine Tw ?_|(refine Tm ?_;intro _)|exact Tz)
  refine WC.adraw 9 (k:=?_)
  iterate 9 (first|refine Da ?_|refine DQ.does (fun s _=>za (o':=o+i*8) rfl rfl hlt rfl) Dp.const ?_|refine DQ.does (fun s _=>za (o':=0+i*8) rfl rfl hlt rfl) Dp.const ?_|refine DQ.does (fun s _=>zk (vs:=vm x) (hs:=hs) (hle:=Nat.le_add_right _ _) (hc:=hcx)) Dp.const ?_|refine DQ.does (fun s _=>zk (vs:=vm x) (hs:=hwT) (hle:=Nat.zero_le _) (hc:=hct)) Dp.const ?_|refine DQ.does (fun s _=>qo rfl rfl (fun w=>aD x.1 x.2 w) (fun w=>eG _ _ _ _ _ w)) Dp.const ?_|refine Dc ?_)
  refine DQ.anil (k:=?_);intro sx _
  repeat (first|refine Ta ?_|(refine Tm ?_;intro _)|refine WO.does (zh rfl rfl hadd2) ?_|refine Tc ?_|exact Tz)
  exact WX.metI (i+1) (hs:=⟨by show i+1≤xs.length;omega,by show xs.length - (i+1)<xs.length - i;omega⟩)
 ·have hi2:i=xs.length:=by omega
  subst hi2;have hct:cut (xs.flatMap vm++(yO 77 0)) (0+xs.length*8 - 0) 8=yO 77 0:=by rw[Nat.zero_add,Nat.sub_zero];exact qU yo rfl
  have h77:(77:Nat)<zb:=vE (by decide)
  repeat (first|refine Tw ?_|(refine Tm ?_;intro _)|exact Tz)
  refine WC.dF rfl (by omega) ?_
  repeat (first|refine Ta ?_|(refine Tm ?_;intro _)|refine WO.does (zh rfl rfl hadd) ?_|refine WO.does (yh (h:=xs.length+1) rfl rfl (Nat.le_refl _)) ?_|refine WO.does (za (o':=0+xs.length*8) rfl rfl (Nat.lt_succ_self _) rfl) ?_|refine WO.does (zk (vs:=yO 77 0) (hs:=hwT) (hle:=Nat.zero_le _) (hc:=hct)) ?_|refine WO.does (zM (cs:=zc 77) rfl rfl (by kernel_rfl)) ?_|refine WO.does (zZ (ha:=h77) (hb:=h77)) ?_|refine Tc ?_|exact Tz)
theorem lW (xs:List (Nat × Nat)) (pt:Option Addr) (c bt:Nat) (hn:xs.length≤100) :
  Fn Tryz.prog 57 [.slice (some ⟨bt,0,none⟩) xs.length (xs.length+1),.slice pt xs.length c] (fun w=>Seg w bt 0 (xs.flatMap pfC++(yO 77 0))∧RdF pfC (.slice pt xs.length c) xs w) (Is (.bool true)):=by
 have hadd:IntKind.i64.wrap ((xs.length:Int)+1)=((xs.length+1:Nat):Int):=zl (by omega) (by omega) (by omega);have d0:decide ((xs.length:Int)≠(xs.length:Int))=false:=decide_eq_false (fun h=>h rfl);have d1:decide (((xs.length+1:Nat):Int)≤(xs.length:Int))=false:=decide_eq_false (by omega);refine Fn.enter Tryz.func57 rfl rfl rfl ?_;intro w hw;obtain⟨hwT,pt',c',e,hpc⟩:=hw;cases e
 repeat (first|refine Tw ?_|(refine Tm ?_;intro _)|exact Tz)
 rw[d0]
 repeat (first|refine Ta ?_|(refine Tm ?_;intro _)|refine WO.does (sW rfl) ?_|refine Tc ?_|exact Tz)
 rw[d1]
 repeat (first|refine Tw ?_|(refine Tm ?_;intro _)|exact Tz)
 refine WC.loopI (σ:=Nat) (fun i=>i≤xs.length) (fun i=>[(0,.slice (some ⟨bt,0,none⟩) xs.length (xs.length+1)),(1,.slice pt xs.length c),(5,.int .i64 (i:Int))]) (fun i=>[]) (fun i=>xs.length - i) 0 (fun i hi=>?_) (Nat.zero_le _)
 try dsimp only at hi ⊢
 by_cases hlt:i<xs.length
 ·obtain⟨x,hx⟩ : ∃ x,xs[i]?=some x:=⟨_,List.getElem?_eq_getElem hlt⟩
  rcases hpc with ⟨_,h0⟩|⟨b,o,rfl,hs⟩
  ·rw[h0] at hlt;simp at hlt
  have hadd2:IntKind.i64.wrap ((i:Int)+1)=((i+1:Nat):Int):=zl (by omega) (by omega) (by omega);have hcx:cut (xs.flatMap pfC) (o+i*8 - o) 8=pfC x:=by rw[Nat.add_sub_cancel_left];exact zx vu hx
  have hct:cut (xs.flatMap pfC++(yO 77 0)) (0+i*8 - 0) 8=pfC x:=by rw[Nat.zero_add,Nat.sub_zero];exact qX vu hx
  repeat (first|refine Tw ?_|(refine Tm ?_;intro _)|exact Tz)
  refine WC.dT rfl (by omega) ?_
  repeat (first|refine Tw ?_|(refine Tm ?_;intro _)|exact Tz)
  refine WC.adraw 9 (k:=?_)
  iterate 9 (first|refine Da ?_|refine DQ.does (fun s _=>za (o':=o+i*8) rfl rfl hlt rfl) Dp.const ?_|refine DQ.does (fun s _=>za (o':=0+i*8) rfl rfl hlt rfl) Dp.const ?_|refine DQ.does (fun s _=>zk (vs:=pfC x) (hs:=hs) (hle:=Nat.le_add_right _ _) (hc:=hcx)) Dp.const ?_|refine DQ.does (fun s _=>zk (vs:=pfC x) (hs:=hwT) (hle:=Nat.zero_le _) (hc:=hct)) Dp.const ?_|refine DQ.does (fun s _=>qo rfl rfl (fun w=>gh x.1 x.2 w) (fun w=>jo _ _ _ _ _ w)) Dp.const ?_|refine Dc ?_)
  refine DQ.anil (k:=?_);intro sx _
  repeat (first|refine Ta ?_|(refine Tm ?_;intro _)|refine WO.does (zh rfl rfl hadd2) ?_|refine Tc ?_|exact Tz)
  exact WX.metI (i+1) (hs:=⟨by show i+1≤xs.length;omega,by show xs.length - (i+1)<xs.length - i;omega⟩)
 ·have hi2:i=xs.length:=by omega
  subst hi2;have hct:cut (xs.flatMap pfC++(yO 77 0)) (0+xs.length*8 - 0) 8=yO 77 0:=by rw[Nat.zero_add,Nat.sub_zero];exact qU vu rfl
  have h77:(77:Nat)<zb:=vE (by decide)
  repeat (first|refine Tw ?_|(refine Tm ?_;intro _)|exact Tz)
  refine WC.dF rfl (by omega) ?_
  repeat (first|refine Ta ?_|(refine Tm ?_;intro _)|refine WO.does (zh rfl rfl hadd) ?_|refine WO.does (yh (h:=xs.length+1) rfl rfl (Nat.le_refl _)) ?_|refine WO.does (za (o':=0+xs.length*8) rfl rfl (Nat.lt_succ_self _) rfl) ?_|refine WO.does (zk (vs:=yO 77 0) (hs:=hwT) (hle:=Nat.zero_le _) (hc:=hct)) ?_|refine WO.does (zM (cs:=zc 77) rfl rfl (by kernel_rfl)) ?_|refine WO.does (zZ (ha:=h77) (hb:=h77)) ?_|refine Tc ?_|exact Tz)
end Sx
end
end Go.Proofs.YtbbppkkhidkjpaaGreatDoor
