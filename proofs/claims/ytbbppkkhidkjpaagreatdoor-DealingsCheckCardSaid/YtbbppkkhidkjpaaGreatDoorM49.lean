/- Part 49 of the proof. -/
import Derived.Test.YtbbppkkhidkjpaaGreatDoorM46
import Derived.Test.YtbbppkkhidkjpaaGreatDoorM47
import Derived.Test.YtbbppkkhidkjpaaGreatDoorM48
set_option linter.unusedSimpArgs false
set_option linter.unusedVariables false
set_option maxHeartbeats 8000000
namespace Go.Proofs.YtbbppkkhidkjpaaGreatDoor
section
open Go Go.RowKit Go.BigFrame
namespace Sx
attribute [local irreducible] DQ DQS WC WI WO WX wd
section
variable (p q g h:Nat) (f sec:Int) (pN pV pY pP:Option Addr) (cN cV cY cP:Nat) (N:List (Nat × Nat)) (ep d:Nat) (V Y:List Nat) (Pr:List (Nat × Nat)) (sC sS gS gD gg gn gi:Nat)
theorem aer (n c:Nat) (hNn:N.length=n) (hfs:f+sec=(c:Int)) (hVn:V.length=n) (hn1:1≤n) (hn7:n≤7) (hc1:1≤c) (hcn:c≤n) (hnq:n<q) (hq:q<zb) (hp:p<zb) (h1p:1<p) (hV:cF p V) :
  Fn Tryz.prog 30 [pt gg,pt gD,pt gS] (CkR p q g h f sec pN pV pY pP cN cV cY cP N ep d V Y Pr sC sS gS gD gg gn gi) (aah (if duB p q n c V then none else some 12)):=by
 refine Fn.enter Tryz.func30 rfl rfl rfl ?_;intro w hw;obtain⟨x0,hx0⟩ : ∃ x,V[0]?=some x:=⟨_,List.getElem?_eq_getElem (by omega)⟩;obtain⟨bV,oV,eV,_,hVs⟩:=hw.rV.get hx0;subst eV;have hlV:bV<w.heap.size:=RdF.lt (k:=3) (fun _=>rfl) hw.rV (by rintro rfl;simp at hx0);have hD:=bf p q g h V n cV c bV oV hVn hn1 hn7 hc1 hcn hnq hq hp h1p hV;have hsS:=hw.s;have hsD:=hw.d;have hsg:=hw.g;rw[hVn] at hsD;have hadd:IntKind.i64.wrap (f+sec)=(c:Int):=by rw[hfs];exact i64_in (by omega) (by omega)
 generalize duB p q n c V=b at *
 repeat (first|refine WO.does (zk (vs:=zR p q g h) (hs:=hsg)) ?_|refine WO.does (zi (hs:=hsD)) ?_|refine WO.does (zi (hs:=hsS)) ?_|refine WO.does (zh rfl rfl hadd) ?_|refine Ta ?_|(refine Tm ?_;intro _)|refine Tc ?_|exact Tz)
 refine WO.calls (fs:=[]) (cs:=[]) hD rfl rfl rfl (fun w1 hm=>⟨hVs.mod hm.mod (by simp),Nat.lt_of_lt_of_le hlV hm.mod.size⟩) (fun v N1 hv=>?_);obtain⟨e,rfl,he,rfl⟩:=hv;cases b with
 | true =>
  obtain rfl:=he rfl
  repeat (first|refine WO.does (yf rfl rfl rfl) ?_|refine Ta ?_|(refine Tm ?_;intro _)|refine Tc ?_|exact Tz)
  refine WO.calls (fs:=[]) (cs:=[]) (vL 12 true) rfl rfl rfl (fun _ _=>trivial) (fun v N' hv=>?_)
  repeat (first|refine Tw ?_|(refine Tm ?_;intro _)|exact Tz)
  exact WX.ret1 rfl (by exact zt rfl) N' Lle.left hv
 | false =>
  repeat (first|refine Tw ?_|(refine Tm ?_;intro _)|exact Tz)
  refine WO.calls (fs:=[]) (cs:=[]) (vL 12 false) rfl rfl rfl (fun _ _=>trivial) (fun v N' hv=>?_)
  repeat (first|refine Tw ?_|(refine Tm ?_;intro _)|exact Tz)
  exact WX.ret1 rfl (by exact zt rfl) N' Lle.left hv
theorem ad4 (k:Nat × Nat) (hk:N[d - 1]?=some k) (hd1:1≤d) (hd:d<256) (hV0:V≠[]) (hY0:Y≠[]) (hP0:Pr≠[]) (hVl:V.length≤1000) (hYl:Y.length≤1000) (hPl:Pr.length≤1000) (hk1:k.1<zb) (hk2:k.2<zb)
  (hp:p<zb) (hq:q<zb) (hg:g<zb) (hC:sC<zb) (hS:sS<zb) (hgm:vo p g=true) (hHl:(v7 ep d V Y Pr).length=32) (hHb:∀ b∈v7 ep d V Y Pr,b<256) :
  Fn Tryz.prog 34 [pt gg,pt gS,pt gD] (CkR p q g h f sec pN pV pY pP cN cV cY cP N ep d V Y Pr sC sS gS gD gg gn gi) (aah (if qf p q g k.1 sC sS (v7 ep d V Y Pr) then none else some 10)):=by
 have hH:=jI ep d sC sS pV pY pP cV cY cP V Y Pr hd hVl hYl hPl;have hSg:=iP p q g h k.1 sC sS (v7 ep d V Y Pr) hp hq hg hk1 hC hS hHb hHl hgm;generalize v7 ep d V Y Pr=H at *;generalize qf p q g k.1 sC sS H=b at *;have hbH:(byC H).length=32:=by rw[zd,hHl]
 refine Fn.enter Tryz.func34 rfl rfl rfl ?_;intro w hw;obtain⟨bN,oN,eN,_,hNs⟩:=hw.rN.get hk;subst eN;have hlt:d - 1<N.length:=by
  rcases Nat.lt_or_ge (d - 1) N.length with h1|h1
  ·exact h1
  ·rw[List.getElem?_eq_none h1] at hk;cases hk
 have hsS:=hw.s;have hsD:=hw.d;have hsg:=hw.g;have hsub:IntKind.u8.wrap ((d:Int) - 1)=((d - 1:Nat):Int):=by simp[IntKind.wrap,IntKind.signed,IntKind.bits];omega
 have hcK:=zx yo hk;have hcx:cut (N.flatMap vm) (oN+(d - 1)*8 - oN) 4=zc k.1:=by
  rw[Nat.add_sub_cancel_left];have:cut (cut (N.flatMap vm) ((d - 1)*8) 8) 0 4=cut (N.flatMap vm) ((d - 1)*8) 4:=by unfold cut;rw[List.drop_zero,List.take_take];rfl
  rw[← this,hcK];rfl
 obtain⟨key,k2⟩:=k;dsimp only at *
 repeat (first|refine Tw ?_|(refine Tm ?_;intro _)|exact Tz)
 refine WC.adraw 16 (k:=?_);refine DQ.does (fun s _=>zk (vs:=zR p q g h) (hs:=hsg)) Dp.const ?_
 iterate 1 (first|refine Da ?_|refine Dc ?_)
 refine DQ.does (fun s _=>zi (hs:=hsS)) Dp.const ?_
 iterate 1 (first|refine Da ?_|refine Dc ?_)
 refine DQ.does (fun s _=>zi (hs:=hsD)) Dp.const ?_;refine DQ.does (fun s _=>zA rfl rfl hsub) Dp.const ?_;refine DQ.does (fun s _=>za (o':=oN+(d - 1)*8) rfl rfl hlt rfl) Dp.const ?_
 iterate 1 (first|refine Da ?_|refine Dc ?_)
 refine DQ.does (fun s _=>zk (vs:=zc key) (hs:=hNs) (hle:=Nat.le_add_right _ _) (hc:=hcx)) Dp.const ?_;refine DQ.does (fun s _=>zk (vs:=dlC ep d (.slice pV V.length cV) (.slice pY Y.length cY) (.slice pP Pr.length cP) sC sS) (hs:=hsD)) Dp.const ?_;refine DQ.acallM (hc:=hH) (hR:=fun w1 hm=>⟨hw.rV.mod hm.mod,hw.rY.mod hm.mod,hw.rP.mod hm.mod⟩) (k:=?_)
 iterate 1 (first|refine Da ?_|refine Dc ?_)
 refine DQ.does (fun s _=>zk (vs:=yO sC sS) (hs:=hsD)) Dp.const ?_;refine DQ.acallM (hc:=hSg) (hR:=fun _ _=>trivial) (k:=?_);cases b with
 | true =>
  refine DQ.acallM (hc:=mC 10) (hR:=fun _ _=>trivial) (k:=?_)
  iterate 1 (first|refine Da ?_|refine Dc ?_)
  refine DQ.anil (k:=?_);intro sx _
  repeat (first|refine Tw ?_|(refine Tm ?_;intro _)|exact Tz)
  exact WX.ret1 rfl (by exact zt rfl) [] Lle.nil ⟨rfl,rfl⟩
 | false =>
  refine DQ.callsE (fs:=fun _=>[]) (cs:=fun _=>[]) (R:=fun _=>Tr) (vf:=fun _ x=>.iface 71 (pt (x 0))) (Nf:=fun _ x=>[⟨x 0,73,[.int .i64 10]⟩]) (S:=fun _ _=>True) (fun _=>[]) (fun _=>.nil)
   (fun _=>⟨fun _=>0,trivial⟩) (fun _ _=>m5 10) (fun _=>rfl) (fun _=>rfl) (fun _=>rfl) (fun _ _ w hm=>trivial) Dp.const Dp.const Dp.const ?_
  try dsimp only[List.map_cons,List.map_nil,List.cons_append,List.nil_append]
  iterate 1 (first|refine Da ?_|refine Dc ?_)
  refine DQ.anil (k:=?_);intro sx _
  repeat (first|refine Tw ?_|(refine Tm ?_;intro _)|exact Tz)
  exact WX.ret1 rfl (by exact zt rfl) _ (Lle.c Lle.nil) ⟨_,rfl,rfl⟩
end
def adJ:ByteArray:=⟨#[115,104,97,114,101]⟩
def pfB (p q g:Nat) (N:List (Nat × Nat)) (V Y:List Nat) (Pr:List (Nat × Nat)) (i:Nat):Bool:=ckB p q (zN adJ) g (V[i]?.getD 0) (N[i]?.getD (0,0)).2 (Y[i]?.getD 0) (Pr[i]?.getD (0,0)).1 (Pr[i]?.getD (0,0)).2
def cD (p q g:Nat) (N:List (Nat × Nat)) (V Y:List Nat) (Pr:List (Nat × Nat)):Bool:=(List.range Pr.length).all (pfB p q g N V Y Pr)
theorem nN {P:Nat→Bool} {n i:Nat} (hi:i<n) (h:P i=false):(List.range n).all P=false:=by
 rw[List.all_eq_false];exact⟨i,List.mem_range.2 hi,by simp[h]⟩
theorem nu {α:Type} {f:α→List Value} {m k o:Nat} {xs:List α} {i:Nat} {x:α} (hk:∀ x,(f x).length=k) (hx:xs[i]?=some x) (hm:o+m≤k):cut (xs.flatMap f) (i*k+o) m=cut (f x) o m:=by
 rw[← zx hk hx];unfold cut;rw[List.drop_take,List.take_take,List.drop_drop,Nat.min_eq_left (by omega)]
section
variable (p q g h:Nat) (f sec:Int) (pN pV pY pP:Option Addr) (cN cV cY cP:Nat) (N:List (Nat × Nat)) (ep d:Nat) (V Y:List Nat) (Pr:List (Nat × Nat)) (sC sS gS gD gg gn gi:Nat)
theorem aeb (hVn:V.length=Pr.length) (hYn:Y.length=Pr.length) (hNn:N.length=Pr.length) (hP7:Pr.length≤7) (hN:vh N) (hV:∀ a∈V,a<zb) (hY:∀ a∈Y,a<zb) (hPr:vh Pr) (hp:p<zb) (hq:q<zb) (hg:g<zb) :
  Fn Tryz.prog 32 [pt gD,pt gg,pt gS] (CkR p q g h f sec pN pV pY pP cN cV cY cP N ep d V Y Pr sC sS gS gD gg gn gi) (aah (if cD p q g N V Y Pr then none else some 11)):=by
 refine Fn.enter Tryz.func32 rfl rfl rfl ?_;intro w hw;have hsS:=hw.s;have hsD:=hw.d;have hsg:=hw.g
 repeat (first|refine WO.does (zi (hs:=hsD)) ?_|refine Ta ?_|(refine Tm ?_;intro _)|refine Tc ?_|exact Tz)
 refine WC.loopI (σ:=Nat) (fun i=>i≤Pr.length∧∀ j,j<i→pfB p q g N V Y Pr j=true) (fun i=>[(0,pt gD),(1,pt gg),(2,pt gS),(7,.slice pP Pr.length cP),(8,.int .i64 (Pr.length:Int)),(9,.int .i64 (i:Int))]) (fun _=>[]) (fun i=>Pr.length - i) 0 (fun i hi=>?_) ⟨Nat.zero_le _,fun j hj=>absurd hj (Nat.not_lt_zero _)⟩
 try dsimp only at hi ⊢
 obtain⟨hi,h0⟩:=hi
 by_cases hlt:i<Pr.length
 ·obtain⟨x,hx⟩ : ∃ y,V[i]?=some y:=⟨_,List.getElem?_eq_getElem (by omega)⟩;obtain⟨y,hy⟩ : ∃ z,Y[i]?=some z:=⟨_,List.getElem?_eq_getElem (by omega)⟩;obtain⟨k,hk⟩ : ∃ z,N[i]?=some z:=⟨_,List.getElem?_eq_getElem (by omega)⟩;obtain⟨pr,hpr⟩ : ∃ z,Pr[i]?=some z:=⟨_,List.getElem?_eq_getElem (by omega)⟩;obtain⟨bV,oV,eV,_,hVs⟩:=hw.rV.get hx;obtain⟨bY,oY,eY,_,hYs⟩:=hw.rY.get hy;obtain⟨bN,oN,eN,_,hNs⟩:=hw.rN.get hk;obtain⟨bP,oP,eP,_,hPs⟩:=hw.rP.get hpr;subst eV eY eN eP;have hcV:cut (V.flatMap zc) (oV+i*4 - oV) 4=zc x:=by rw[Nat.add_sub_cancel_left];exact zx zy hx
  have hcY:cut (Y.flatMap zc) (oY+i*4 - oY) 4=zc y:=by rw[Nat.add_sub_cancel_left];exact zx zy hy
  have hcP:cut (Pr.flatMap pfC) (oP+i*8 - oP) 8=pfC pr:=by rw[Nat.add_sub_cancel_left];exact zx vu hpr
  have hcN:cut (N.flatMap vm) (oN+i*8+4 - oN) 4=zc k.2:=by
   rw[Nat.add_assoc,Nat.add_sub_cancel_left,nu yo hk (by decide)];rfl
  have hadd2:IntKind.i64.wrap ((i:Int)+1)=((i+1:Nat):Int):=zl (by omega) (by omega) (by omega);have hC:=abk p q g h adJ g x k.2 y pr.1 pr.2 hp hq hg (hV _ (List.mem_of_getElem? hx)) (hN _ (List.mem_of_getElem? hk)).2 (hY _ (List.mem_of_getElem? hy)) (hPr _ (List.mem_of_getElem? hpr)).1 (hPr _ (List.mem_of_getElem? hpr)).2 (by decide);have hb:ckB p q (zN adJ) g x k.2 y pr.1 pr.2=pfB p q g N V Y Pr i:=by unfold pfB;rw[hx,hy,hk,hpr];rfl
  rw[hb] at hC;cases hr:pfB p q g N V Y Pr i with
  | true =>
   rw[hr] at hC
   repeat (first|refine Tw ?_|(refine Tm ?_;intro _)|exact Tz)
   refine WC.dT rfl (by omega) ?_
   repeat (first|refine WO.does (za (o':=oP+i*8) rfl rfl hlt rfl) ?_|refine WO.does (zk (vs:=pfC pr) (hs:=hPs) (hle:=Nat.le_add_right _ _) (hc:=hcP)) ?_|refine Ta ?_|(refine Tm ?_;intro _)|refine Tc ?_|exact Tz)
   refine WC.adraw 22 (k:=?_);refine DQ.does (fun s _=>zk (vs:=zR p q g h) (hs:=hsg)) Dp.const ?_
   iterate 1 (first|refine Da ?_|refine Dc ?_)
   refine DQ.does (fun s _=>zk (vs:=zc g) (hs:=hsg)) Dp.const ?_
   iterate 1 (first|refine Da ?_|refine Dc ?_)
   refine DQ.does (fun s _=>zi (hs:=hsD)) Dp.const ?_
   iterate 1 (first|refine Da ?_|refine Dc ?_)
   refine DQ.does (fun s _=>za (o':=oV+i*4) rfl rfl (by omega) rfl) Dp.const ?_;refine DQ.does (fun s _=>zk (vs:=zc x) (hs:=hVs) (hle:=Nat.le_add_right _ _) (hc:=hcV)) Dp.const ?_
   iterate 1 (first|refine Da ?_|refine Dc ?_)
   refine DQ.does (fun s _=>zi (hs:=hsS)) Dp.const ?_
   iterate 1 (first|refine Da ?_|refine Dc ?_)
   refine DQ.does (fun s _=>za (o':=oN+i*8) rfl rfl (by omega) rfl) Dp.const ?_
   iterate 1 (first|refine Da ?_|refine Dc ?_)
   refine DQ.does (fun s _=>zk (vs:=zc k.2) (hs:=hNs) (hle:=by omega) (hc:=hcN)) Dp.const ?_
   iterate 1 (first|refine Da ?_|refine Dc ?_)
   refine DQ.does (fun s _=>zi (hs:=hsD)) Dp.const ?_
   iterate 1 (first|refine Da ?_|refine Dc ?_)
   refine DQ.does (fun s _=>za (o':=oY+i*4) rfl rfl (by omega) rfl) Dp.const ?_;refine DQ.does (fun s _=>zk (vs:=zc y) (hs:=hYs) (hle:=Nat.le_add_right _ _) (hc:=hcY)) Dp.const ?_;refine DQ.does (fun s _=>zz (vs:=pfC pr) (hc:=rfl)) Dp.const ?_;refine DQ.acallM (hc:=hC) (hR:=fun _ _=>trivial) (k:=?_)
   iterate 1 (first|refine Da ?_|refine Dc ?_)
   refine DQ.anil (k:=?_);intro sx _
   repeat (first|refine WO.does (zh rfl rfl hadd2) ?_|refine Ta ?_|(refine Tm ?_;intro _)|refine Tc ?_|exact Tz)
   exact WX.metI (i+1) (hs:=⟨⟨by omega,fun j hj=>by
    by_cases e:j=i
    ·subst e;exact hr
    ·exact h0 j (by omega)⟩,by show Pr.length - (i+1)<Pr.length - i;omega⟩)
  | false =>
   rw[hr] at hC;rw[show cD p q g N V Y Pr=false from nN hlt hr]
   repeat (first|refine Tw ?_|(refine Tm ?_;intro _)|exact Tz)
   refine WC.dT rfl (by omega) ?_
   repeat (first|refine WO.does (za (o':=oP+i*8) rfl rfl hlt rfl) ?_|refine WO.does (zk (vs:=pfC pr) (hs:=hPs) (hle:=Nat.le_add_right _ _) (hc:=hcP)) ?_|refine Ta ?_|(refine Tm ?_;intro _)|refine Tc ?_|exact Tz)
   refine WC.adraw 22 (k:=?_);refine DQ.does (fun s _=>zk (vs:=zR p q g h) (hs:=hsg)) Dp.const ?_
   iterate 1 (first|refine Da ?_|refine Dc ?_)
   refine DQ.does (fun s _=>zk (vs:=zc g) (hs:=hsg)) Dp.const ?_
   iterate 1 (first|refine Da ?_|refine Dc ?_)
   refine DQ.does (fun s _=>zi (hs:=hsD)) Dp.const ?_
   iterate 1 (first|refine Da ?_|refine Dc ?_)
   refine DQ.does (fun s _=>za (o':=oV+i*4) rfl rfl (by omega) rfl) Dp.const ?_;refine DQ.does (fun s _=>zk (vs:=zc x) (hs:=hVs) (hle:=Nat.le_add_right _ _) (hc:=hcV)) Dp.const ?_
   iterate 1 (first|refine Da ?_|refine Dc ?_)
   refine DQ.does (fun s _=>zi (hs:=hsS)) Dp.const ?_
   iterate 1 (first|refine Da ?_|refine Dc ?_)
   refine DQ.does (fun s _=>za (o':=oN+i*8) rfl rfl (by omega) rfl) Dp.const ?_
   iterate 1 (first|refine Da ?_|refine Dc ?_)
   refine DQ.does (fun s _=>zk (vs:=zc k.2) (hs:=hNs) (hle:=by omega) (hc:=hcN)) Dp.const ?_
   iterate 1 (first|refine Da ?_|refine Dc ?_)
   refine DQ.does (fun s _=>zi (hs:=hsD)) Dp.const ?_
   iterate 1 (first|refine Da ?_|refine Dc ?_)
   refine DQ.does (fun s _=>za (o':=oY+i*4) rfl rfl (by omega) rfl) Dp.const ?_;refine DQ.does (fun s _=>zk (vs:=zc y) (hs:=hYs) (hle:=Nat.le_add_right _ _) (hc:=hcY)) Dp.const ?_;refine DQ.does (fun s _=>zz (vs:=pfC pr) (hc:=rfl)) Dp.const ?_;refine DQ.acallM (hc:=hC) (hR:=fun _ _=>trivial) (k:=?_)
   iterate 1 (first|refine Da ?_|refine Dc ?_)
   refine DQ.anil (k:=?_);intro sx _
   repeat (first|refine WO.does (vV (by kernel_rfl) rfl) ?_|refine Ta ?_|(refine Tm ?_;intro _)|refine Tc ?_|exact Tz)
   exact WX.ret1 rfl (by exact zt rfl) [⟨_,73,[.int .i64 11]⟩] (Lle.c Lle.nil) ⟨_,rfl,rfl⟩
 ·have hi2:i=Pr.length:=by omega
  have hall:cD p q g N V Y Pr=true:=by
   unfold cD;rw[List.all_eq_true];exact fun j hj=>h0 j (by have:=List.mem_range.1 hj;omega)
  rw[hall]
  repeat (first|refine Tw ?_|(refine Tm ?_;intro _)|exact Tz)
  refine WC.dF rfl (by omega) ?_
  repeat (first|refine Tw ?_|(refine Tm ?_;intro _)|exact Tz)
  exact WX.ret1 rfl (by exact zt rfl) [] Lle.nil ⟨rfl,rfl⟩
end
end Sx
end
section
open Go Go.RowKit Go.BigFrame
namespace Sx
section
variable (p q g h:Nat) (f sec:Int) (N:List (Nat × Nat)) (ep d:Nat) (V Y:List Nat) (Pr:List (Nat × Nat)) (sC sS:Nat)
def ckE:Option Int:=if vT p q g h f sec N then (if shB p q N d V Y Pr then (if duB p q N.length (f+sec).toNat V then (if cD p q g N V Y Pr then (if qf p q g (N[d - 1]?.getD (0,0)).1 sC sS (v7 ep d V Y Pr) then none else some 10) else some 11) else some 12) else some 4) else some 1
end
end Sx
end
section
open Go Go.RowKit Go.BigFrame
namespace Sx
attribute [local irreducible] DQ DQS WC WI WO WX wd
section
variable (p q g h:Nat) (f sec:Int) (pN pV pY pP:Option Addr) (cN cV cY cP:Nat) (N:List (Nat × Nat)) (ep d:Nat) (V Y:List Nat) (Pr:List (Nat × Nat)) (sC sS:Nat)
theorem dm (r:Option Int) (hAsk:∀ gS gD gg gn gi,aaF (CkR p q g h f sec pN pV pY pP cN cV cY cP N ep d V Y Pr sC sS gS gD gg gn gi)
   [(25,[pt gS]),(28,[pt gS,pt gD,pt gn,pt gi]),(30,[pt gg,pt gD,pt gS]),(32,[pt gD,pt gg,pt gS]),(34,[pt gg,pt gS,pt gD])] r) :
  Fn Tryz.prog 8 [stV p q g h f sec (.slice pN N.length cN),dlV ep d (.slice pV V.length cV) (.slice pY Y.length cY) (.slice pP Pr.length cP) sC sS]
   (fun w=>(RdF vm (.slice pN N.length cN) N w∧RdF zc (.slice pV V.length cV) V w∧RdF zc (.slice pY Y.length cY) Y w∧RdF pfC (.slice pP Pr.length cP) Pr w)∧mh w) (Is (.int .i64 (r.getD 0))):=by
 refine Fn.enter Tryz.func8 rfl rfl rfl ?_;intro w hw;obtain⟨⟨hN,hV,hY,hP⟩,hH⟩:=hw
 repeat (first|refine Tw ?_|(refine Tm ?_;intro _)|exact Tz)
 rename_i gS gD;refine WC.allA (fun A hA=>?_)
 suffices hS511:∀ q5 q6,A [(8,pt gS),(9,yd p q g h),(10,.pointer (some ⟨gS,18,none⟩)),(11,.slice pN N.length cN),(12,.int .i64 (N.length:Int)),(5,pt q5),(6,pt q6),(2,pt gS),(3,pt gD),(4,.int .i64 0)] [⟨q5,26,zR p q g h⟩,⟨q6,3,[.int .i64 (N.length:Int)]⟩,⟨gD,35,dlC ep d (.slice pV V.length cV) (.slice pY Y.length cY) (.slice pP Pr.length cP) sC sS⟩,⟨gS,29,stC p q g h f sec (.slice pN N.length cN)⟩] (bt 9 511) 0 by
  have hS255:∀ q5 q6,A [(8,pt gS),(9,yd p q g h),(10,.pointer (some ⟨gS,18,none⟩)),(11,.slice pN N.length cN),(12,.int .i64 (N.length:Int)),(5,pt q5),(6,pt q6),(2,pt gS),(3,pt gD),(4,.int .i64 0)] [⟨q5,26,zR p q g h⟩,⟨q6,3,[.int .i64 0]⟩,⟨gD,35,dlC ep d (.slice pV V.length cV) (.slice pY Y.length cY) (.slice pP Pr.length cP) sC sS⟩,⟨gS,29,stC p q g h f sec (.slice pN N.length cN)⟩] (bt 9 255) 1:=by
   intro q5 q6;refine (hA _ _ _ _).2 (WA.step [8] (.cons ?_ .nil))
   ·refine Tw ?_;exact WA.go hA (hS511 q5 q6)
  have hS127:∀ q5 q6,A [(8,pt gS),(9,yd p q g h),(10,.pointer (some ⟨gS,18,none⟩)),(11,.slice pN N.length cN),(12,.int .i64 (N.length:Int)),(5,pt q5),(6,pt q6),(2,pt gS),(3,pt gD),(4,.int .i64 0)] [⟨q5,26,zR 0 0 0 0⟩,⟨q6,3,[.int .i64 0]⟩,⟨gD,35,dlC ep d (.slice pV V.length cV) (.slice pY Y.length cY) (.slice pP Pr.length cP) sC sS⟩,⟨gS,29,stC p q g h f sec (.slice pN N.length cN)⟩] (bt 9 127) 2:=by
   intro q5 q6;refine (hA _ _ _ _).2 (WA.step [7] (.cons ?_ .nil))
   ·refine Tw ?_;exact WA.go hA (hS255 q5 q6)
  have hS239:∀ q5 q6,A [(8,pt gS),(9,yd p q g h),(10,.pointer (some ⟨gS,18,none⟩)),(11,.slice pN N.length cN),(5,pt q5),(6,pt q6),(2,pt gS),(3,pt gD),(4,.int .i64 0)] [⟨q5,26,zR p q g h⟩,⟨q6,3,[.int .i64 0]⟩,⟨gD,35,dlC ep d (.slice pV V.length cV) (.slice pY Y.length cY) (.slice pP Pr.length cP) sC sS⟩,⟨gS,29,stC p q g h f sec (.slice pN N.length cN)⟩] (bt 9 239) 2:=by
   intro q5 q6;refine (hA _ _ _ _).2 (WA.step [4] (.cons ?_ .nil))
   ·refine Tw ?_;exact WA.go hA (hS255 q5 q6)
  have hS63:∀ q5,A [(8,pt gS),(9,yd p q g h),(10,.pointer (some ⟨gS,18,none⟩)),(11,.slice pN N.length cN),(12,.int .i64 (N.length:Int)),(5,pt q5),(2,pt gS),(3,pt gD),(4,.int .i64 0)] [⟨q5,26,zR 0 0 0 0⟩,⟨gD,35,dlC ep d (.slice pV V.length cV) (.slice pY Y.length cY) (.slice pP Pr.length cP) sC sS⟩,⟨gS,29,stC p q g h f sec (.slice pN N.length cN)⟩] (bt 9 63) 3:=by
   intro q5;refine (hA _ _ _ _).2 (WA.step [6] (.cons ?_ .nil))
   ·(refine WO.autoM (k:=?_);intro q6);exact WA.go hA (hS127 q5 q6)
  have hS95:∀ q6,A [(8,pt gS),(9,yd p q g h),(10,.pointer (some ⟨gS,18,none⟩)),(11,.slice pN N.length cN),(12,.int .i64 (N.length:Int)),(6,pt q6),(2,pt gS),(3,pt gD),(4,.int .i64 0)] [⟨q6,3,[.int .i64 0]⟩,⟨gD,35,dlC ep d (.slice pV V.length cV) (.slice pY Y.length cY) (.slice pP Pr.length cP) sC sS⟩,⟨gS,29,stC p q g h f sec (.slice pN N.length cN)⟩] (bt 9 95) 3:=by
   intro q6;refine (hA _ _ _ _).2 (WA.step [5] (.cons ?_ .nil))
   ·(refine WO.autoM (k:=?_);intro q5);exact WA.go hA (hS127 q5 q6)
  have hS111:∀ q5 q6,A [(8,pt gS),(9,yd p q g h),(10,.pointer (some ⟨gS,18,none⟩)),(11,.slice pN N.length cN),(5,pt q5),(6,pt q6),(2,pt gS),(3,pt gD),(4,.int .i64 0)] [⟨q5,26,zR 0 0 0 0⟩,⟨q6,3,[.int .i64 0]⟩,⟨gD,35,dlC ep d (.slice pV V.length cV) (.slice pY Y.length cY) (.slice pP Pr.length cP) sC sS⟩,⟨gS,29,stC p q g h f sec (.slice pN N.length cN)⟩] (bt 9 111) 3:=by
   intro q5 q6;refine (hA _ _ _ _).2 (WA.step [4,7] (.cons ?_ (.cons ?_ .nil)))
   ·refine Tw ?_;exact WA.go hA (hS127 q5 q6)
   ·refine Tw ?_;exact WA.go hA (hS239 q5 q6)
  have hS231:∀ q5 q6,A [(8,pt gS),(9,yd p q g h),(10,.pointer (some ⟨gS,18,none⟩)),(5,pt q5),(6,pt q6),(2,pt gS),(3,pt gD),(4,.int .i64 0)] [⟨q5,26,zR p q g h⟩,⟨q6,3,[.int .i64 0]⟩,⟨gD,35,dlC ep d (.slice pV V.length cV) (.slice pY Y.length cY) (.slice pP Pr.length cP) sC sS⟩,⟨gS,29,stC p q g h f sec (.slice pN N.length cN)⟩] (bt 9 231) 3:=by
   intro q5 q6;refine (hA _ _ _ _).2 (WA.step [3] (.cons ?_ .nil))
   ·refine Tw ?_;exact WA.go hA (hS239 q5 q6)
  have hS125:∀ q5 q6,A [(8,pt gS),(10,.pointer (some ⟨gS,18,none⟩)),(11,.slice pN N.length cN),(12,.int .i64 (N.length:Int)),(5,pt q5),(6,pt q6),(2,pt gS),(3,pt gD),(4,.int .i64 0)] [⟨q5,26,zR 0 0 0 0⟩,⟨q6,3,[.int .i64 0]⟩,⟨gD,35,dlC ep d (.slice pV V.length cV) (.slice pY Y.length cY) (.slice pP Pr.length cP) sC sS⟩,⟨gS,29,stC p q g h f sec (.slice pN N.length cN)⟩] (bt 9 125) 3:=by
   intro q5 q6;refine (hA _ _ _ _).2 (WA.step [1] (.cons ?_ .nil))
   ·refine WO.does (zz (vs:=zR p q g h)) ?_;exact WA.go hA (hS127 q5 q6)
  have hS31:A [(8,pt gS),(9,yd p q g h),(10,.pointer (some ⟨gS,18,none⟩)),(11,.slice pN N.length cN),(12,.int .i64 (N.length:Int)),(2,pt gS),(3,pt gD),(4,.int .i64 0)] [⟨gD,35,dlC ep d (.slice pV V.length cV) (.slice pY Y.length cY) (.slice pP Pr.length cP) sC sS⟩,⟨gS,29,stC p q g h f sec (.slice pN N.length cN)⟩] (bt 9 31) 4:=by
   refine (hA _ _ _ _).2 (WA.step [5,6] (.cons ?_ (.cons ?_ .nil)))
   ·(refine WO.autoM (k:=?_);intro q5);exact WA.go hA (hS63 q5)
   ·(refine WO.autoM (k:=?_);intro q6);exact WA.go hA (hS95 q6)
  have hS47:∀ q5,A [(8,pt gS),(9,yd p q g h),(10,.pointer (some ⟨gS,18,none⟩)),(11,.slice pN N.length cN),(5,pt q5),(2,pt gS),(3,pt gD),(4,.int .i64 0)] [⟨q5,26,zR 0 0 0 0⟩,⟨gD,35,dlC ep d (.slice pV V.length cV) (.slice pY Y.length cY) (.slice pP Pr.length cP) sC sS⟩,⟨gS,29,stC p q g h f sec (.slice pN N.length cN)⟩] (bt 9 47) 4:=by
   intro q5;refine (hA _ _ _ _).2 (WA.step [4,6] (.cons ?_ (.cons ?_ .nil)))
   ·refine Tw ?_;exact WA.go hA (hS63 q5)
   ·(refine WO.autoM (k:=?_);intro q6);exact WA.go hA (hS111 q5 q6)
  have hS79:∀ q6,A [(8,pt gS),(9,yd p q g h),(10,.pointer (some ⟨gS,18,none⟩)),(11,.slice pN N.length cN),(6,pt q6),(2,pt gS),(3,pt gD),(4,.int .i64 0)] [⟨q6,3,[.int .i64 0]⟩,⟨gD,35,dlC ep d (.slice pV V.length cV) (.slice pY Y.length cY) (.slice pP Pr.length cP) sC sS⟩,⟨gS,29,stC p q g h f sec (.slice pN N.length cN)⟩] (bt 9 79) 4:=by
   intro q6;refine (hA _ _ _ _).2 (WA.step [4,5] (.cons ?_ (.cons ?_ .nil)))
   ·refine Tw ?_;exact WA.go hA (hS95 q6)
   ·(refine WO.autoM (k:=?_);intro q5);exact WA.go hA (hS111 q5 q6)
  have hS103:∀ q5 q6,A [(8,pt gS),(9,yd p q g h),(10,.pointer (some ⟨gS,18,none⟩)),(5,pt q5),(6,pt q6),(2,pt gS),(3,pt gD),(4,.int .i64 0)] [⟨q5,26,zR 0 0 0 0⟩,⟨q6,3,[.int .i64 0]⟩,⟨gD,35,dlC ep d (.slice pV V.length cV) (.slice pY Y.length cY) (.slice pP Pr.length cP) sC sS⟩,⟨gS,29,stC p q g h f sec (.slice pN N.length cN)⟩] (bt 9 103) 4:=by
   intro q5 q6;refine (hA _ _ _ _).2 (WA.step [3,7] (.cons ?_ (.cons ?_ .nil)))
   ·refine Tw ?_;exact WA.go hA (hS111 q5 q6)
   ·refine Tw ?_;exact WA.go hA (hS231 q5 q6)
  have hS227:∀ q5 q6,A [(8,pt gS),(9,yd p q g h),(5,pt q5),(6,pt q6),(2,pt gS),(3,pt gD),(4,.int .i64 0)] [⟨q5,26,zR p q g h⟩,⟨q6,3,[.int .i64 0]⟩,⟨gD,35,dlC ep d (.slice pV V.length cV) (.slice pY Y.length cY) (.slice pP Pr.length cP) sC sS⟩,⟨gS,29,stC p q g h f sec (.slice pN N.length cN)⟩] (bt 9 227) 4:=by
   intro q5 q6;refine (hA _ _ _ _).2 (WA.step [2] (.cons ?_ .nil))
   ·refine Tw ?_;exact WA.go hA (hS231 q5 q6)
  have hS61:∀ q5,A [(8,pt gS),(10,.pointer (some ⟨gS,18,none⟩)),(11,.slice pN N.length cN),(12,.int .i64 (N.length:Int)),(5,pt q5),(2,pt gS),(3,pt gD),(4,.int .i64 0)] [⟨q5,26,zR 0 0 0 0⟩,⟨gD,35,dlC ep d (.slice pV V.length cV) (.slice pY Y.length cY) (.slice pP Pr.length cP) sC sS⟩,⟨gS,29,stC p q g h f sec (.slice pN N.length cN)⟩] (bt 9 61) 4:=by
   intro q5;refine (hA _ _ _ _).2 (WA.step [1,6] (.cons ?_ (.cons ?_ .nil)))
   ·refine WO.does (zz (vs:=zR p q g h)) ?_;exact WA.go hA (hS63 q5)
   ·(refine WO.autoM (k:=?_);intro q6);exact WA.go hA (hS125 q5 q6)
  have hS93:∀ q6,A [(8,pt gS),(10,.pointer (some ⟨gS,18,none⟩)),(11,.slice pN N.length cN),(12,.int .i64 (N.length:Int)),(6,pt q6),(2,pt gS),(3,pt gD),(4,.int .i64 0)] [⟨q6,3,[.int .i64 0]⟩,⟨gD,35,dlC ep d (.slice pV V.length cV) (.slice pY Y.length cY) (.slice pP Pr.length cP) sC sS⟩,⟨gS,29,stC p q g h f sec (.slice pN N.length cN)⟩] (bt 9 93) 4:=by
   intro q6;refine (hA _ _ _ _).2 (WA.step [1,5] (.cons ?_ (.cons ?_ .nil)))
   ·refine WO.does (zz (vs:=zR p q g h)) ?_;exact WA.go hA (hS95 q6)
   ·(refine WO.autoM (k:=?_);intro q5);exact WA.go hA (hS125 q5 q6)
  have hS109:∀ q5 q6,A [(8,pt gS),(10,.pointer (some ⟨gS,18,none⟩)),(11,.slice pN N.length cN),(5,pt q5),(6,pt q6),(2,pt gS),(3,pt gD),(4,.int .i64 0)] [⟨q5,26,zR 0 0 0 0⟩,⟨q6,3,[.int .i64 0]⟩,⟨gD,35,dlC ep d (.slice pV V.length cV) (.slice pY Y.length cY) (.slice pP Pr.length cP) sC sS⟩,⟨gS,29,stC p q g h f sec (.slice pN N.length cN)⟩] (bt 9 109) 4:=by
   intro q5 q6;refine (hA _ _ _ _).2 (WA.step [1,4] (.cons ?_ (.cons ?_ .nil)))
   ·refine WO.does (zz (vs:=zR p q g h)) ?_;exact WA.go hA (hS111 q5 q6)
   ·refine Tw ?_;exact WA.go hA (hS125 q5 q6)
  have hS124:∀ q5 q6,A [(10,.pointer (some ⟨gS,18,none⟩)),(11,.slice pN N.length cN),(12,.int .i64 (N.length:Int)),(5,pt q5),(6,pt q6),(2,pt gS),(3,pt gD),(4,.int .i64 0)] [⟨q5,26,zR 0 0 0 0⟩,⟨q6,3,[.int .i64 0]⟩,⟨gD,35,dlC ep d (.slice pV V.length cV) (.slice pY Y.length cY) (.slice pP Pr.length cP) sC sS⟩,⟨gS,29,stC p q g h f sec (.slice pN N.length cN)⟩] (bt 9 124) 4:=by
   intro q5 q6;refine (hA _ _ _ _).2 (WA.step [0] (.cons ?_ .nil))
   ·refine Tw ?_;exact WA.go hA (hS125 q5 q6)
  have hS15:A [(8,pt gS),(9,yd p q g h),(10,.pointer (some ⟨gS,18,none⟩)),(11,.slice pN N.length cN),(2,pt gS),(3,pt gD),(4,.int .i64 0)] [⟨gD,35,dlC ep d (.slice pV V.length cV) (.slice pY Y.length cY) (.slice pP Pr.length cP) sC sS⟩,⟨gS,29,stC p q g h f sec (.slice pN N.length cN)⟩] (bt 9 15) 5:=by
   refine (hA _ _ _ _).2 (WA.step [4,5,6] (.cons ?_ (.cons ?_ (.cons ?_ .nil))))
   ·refine Tw ?_;exact WA.go hA (hS31)
   ·(refine WO.autoM (k:=?_);intro q5);exact WA.go hA (hS47 q5)
   ·(refine WO.autoM (k:=?_);intro q6);exact WA.go hA (hS79 q6)
  have hS39:∀ q5,A [(8,pt gS),(9,yd p q g h),(10,.pointer (some ⟨gS,18,none⟩)),(5,pt q5),(2,pt gS),(3,pt gD),(4,.int .i64 0)] [⟨q5,26,zR 0 0 0 0⟩,⟨gD,35,dlC ep d (.slice pV V.length cV) (.slice pY Y.length cY) (.slice pP Pr.length cP) sC sS⟩,⟨gS,29,stC p q g h f sec (.slice pN N.length cN)⟩] (bt 9 39) 5:=by
   intro q5;refine (hA _ _ _ _).2 (WA.step [3,6] (.cons ?_ (.cons ?_ .nil)))
   ·refine Tw ?_;exact WA.go hA (hS47 q5)
   ·(refine WO.autoM (k:=?_);intro q6);exact WA.go hA (hS103 q5 q6)
  have hS71:∀ q6,A [(8,pt gS),(9,yd p q g h),(10,.pointer (some ⟨gS,18,none⟩)),(6,pt q6),(2,pt gS),(3,pt gD),(4,.int .i64 0)] [⟨q6,3,[.int .i64 0]⟩,⟨gD,35,dlC ep d (.slice pV V.length cV) (.slice pY Y.length cY) (.slice pP Pr.length cP) sC sS⟩,⟨gS,29,stC p q g h f sec (.slice pN N.length cN)⟩] (bt 9 71) 5:=by
   intro q6;refine (hA _ _ _ _).2 (WA.step [3,5] (.cons ?_ (.cons ?_ .nil)))
   ·refine Tw ?_;exact WA.go hA (hS79 q6)
   ·(refine WO.autoM (k:=?_);intro q5);exact WA.go hA (hS103 q5 q6)
  have hS99:∀ q5 q6,A [(8,pt gS),(9,yd p q g h),(5,pt q5),(6,pt q6),(2,pt gS),(3,pt gD),(4,.int .i64 0)] [⟨q5,26,zR 0 0 0 0⟩,⟨q6,3,[.int .i64 0]⟩,⟨gD,35,dlC ep d (.slice pV V.length cV) (.slice pY Y.length cY) (.slice pP Pr.length cP) sC sS⟩,⟨gS,29,stC p q g h f sec (.slice pN N.length cN)⟩] (bt 9 99) 5:=by
   intro q5 q6;refine (hA _ _ _ _).2 (WA.step [2,7] (.cons ?_ (.cons ?_ .nil)))
   ·refine Tw ?_;exact WA.go hA (hS103 q5 q6)
   ·refine Tw ?_;exact WA.go hA (hS227 q5 q6)
  have hS29:A [(8,pt gS),(10,.pointer (some ⟨gS,18,none⟩)),(11,.slice pN N.length cN),(12,.int .i64 (N.length:Int)),(2,pt gS),(3,pt gD),(4,.int .i64 0)] [⟨gD,35,dlC ep d (.slice pV V.length cV) (.slice pY Y.length cY) (.slice pP Pr.length cP) sC sS⟩,⟨gS,29,stC p q g h f sec (.slice pN N.length cN)⟩] (bt 9 29) 5:=by
   refine (hA _ _ _ _).2 (WA.step [1,5,6] (.cons ?_ (.cons ?_ (.cons ?_ .nil))))
   ·refine WO.does (zz (vs:=zR p q g h)) ?_;exact WA.go hA (hS31)
   ·(refine WO.autoM (k:=?_);intro q5);exact WA.go hA (hS61 q5)
   ·(refine WO.autoM (k:=?_);intro q6);exact WA.go hA (hS93 q6)
  have hS45:∀ q5,A [(8,pt gS),(10,.pointer (some ⟨gS,18,none⟩)),(11,.slice pN N.length cN),(5,pt q5),(2,pt gS),(3,pt gD),(4,.int .i64 0)] [⟨q5,26,zR 0 0 0 0⟩,⟨gD,35,dlC ep d (.slice pV V.length cV) (.slice pY Y.length cY) (.slice pP Pr.length cP) sC sS⟩,⟨gS,29,stC p q g h f sec (.slice pN N.length cN)⟩] (bt 9 45) 5:=by
   intro q5;refine (hA _ _ _ _).2 (WA.step [1,4,6] (.cons ?_ (.cons ?_ (.cons ?_ .nil))))
   ·refine WO.does (zz (vs:=zR p q g h)) ?_;exact WA.go hA (hS47 q5)
   ·refine Tw ?_;exact WA.go hA (hS61 q5)
   ·(refine WO.autoM (k:=?_);intro q6);exact WA.go hA (hS109 q5 q6)
  have hS77:∀ q6,A [(8,pt gS),(10,.pointer (some ⟨gS,18,none⟩)),(11,.slice pN N.length cN),(6,pt q6),(2,pt gS),(3,pt gD),(4,.int .i64 0)] [⟨q6,3,[.int .i64 0]⟩,⟨gD,35,dlC ep d (.slice pV V.length cV) (.slice pY Y.length cY) (.slice pP Pr.length cP) sC sS⟩,⟨gS,29,stC p q g h f sec (.slice pN N.length cN)⟩] (bt 9 77) 5:=by
   intro q6;refine (hA _ _ _ _).2 (WA.step [1,4,5] (.cons ?_ (.cons ?_ (.cons ?_ .nil))))
   ·refine WO.does (zz (vs:=zR p q g h)) ?_;exact WA.go hA (hS79 q6)
   ·refine Tw ?_;exact WA.go hA (hS93 q6)
   ·(refine WO.autoM (k:=?_);intro q5);exact WA.go hA (hS109 q5 q6)
  have hS101:∀ q5 q6,A [(8,pt gS),(10,.pointer (some ⟨gS,18,none⟩)),(5,pt q5),(6,pt q6),(2,pt gS),(3,pt gD),(4,.int .i64 0)] [⟨q5,26,zR 0 0 0 0⟩,⟨q6,3,[.int .i64 0]⟩,⟨gD,35,dlC ep d (.slice pV V.length cV) (.slice pY Y.length cY) (.slice pP Pr.length cP) sC sS⟩,⟨gS,29,stC p q g h f sec (.slice pN N.length cN)⟩] (bt 9 101) 5:=by
   intro q5 q6;refine (hA _ _ _ _).2 (WA.step [1,3] (.cons ?_ (.cons ?_ .nil)))
   ·refine WO.does (zz (vs:=zR p q g h)) ?_;exact WA.go hA (hS103 q5 q6)
   ·refine Tw ?_;exact WA.go hA (hS109 q5 q6)
  have hS60:∀ q5,A [(10,.pointer (some ⟨gS,18,none⟩)),(11,.slice pN N.length cN),(12,.int .i64 (N.length:Int)),(5,pt q5),(2,pt gS),(3,pt gD),(4,.int .i64 0)] [⟨q5,26,zR 0 0 0 0⟩,⟨gD,35,dlC ep d (.slice pV V.length cV) (.slice pY Y.length cY) (.slice pP Pr.length cP) sC sS⟩,⟨gS,29,stC p q g h f sec (.slice pN N.length cN)⟩] (bt 9 60) 5:=by
   intro q5;refine (hA _ _ _ _).2 (WA.step [0,6] (.cons ?_ (.cons ?_ .nil)))
   ·refine Tw ?_;exact WA.go hA (hS61 q5)
   ·(refine WO.autoM (k:=?_);intro q6);exact WA.go hA (hS124 q5 q6)
  have hS92:∀ q6,A [(10,.pointer (some ⟨gS,18,none⟩)),(11,.slice pN N.length cN),(12,.int .i64 (N.length:Int)),(6,pt q6),(2,pt gS),(3,pt gD),(4,.int .i64 0)] [⟨q6,3,[.int .i64 0]⟩,⟨gD,35,dlC ep d (.slice pV V.length cV) (.slice pY Y.length cY) (.slice pP Pr.length cP) sC sS⟩,⟨gS,29,stC p q g h f sec (.slice pN N.length cN)⟩] (bt 9 92) 5:=by
   intro q6;refine (hA _ _ _ _).2 (WA.step [0,5] (.cons ?_ (.cons ?_ .nil)))
   ·refine Tw ?_;exact WA.go hA (hS93 q6)
   ·(refine WO.autoM (k:=?_);intro q5);exact WA.go hA (hS124 q5 q6)
  have hS108:∀ q5 q6,A [(10,.pointer (some ⟨gS,18,none⟩)),(11,.slice pN N.length cN),(5,pt q5),(6,pt q6),(2,pt gS),(3,pt gD),(4,.int .i64 0)] [⟨q5,26,zR 0 0 0 0⟩,⟨q6,3,[.int .i64 0]⟩,⟨gD,35,dlC ep d (.slice pV V.length cV) (.slice pY Y.length cY) (.slice pP Pr.length cP) sC sS⟩,⟨gS,29,stC p q g h f sec (.slice pN N.length cN)⟩] (bt 9 108) 5:=by
   intro q5 q6;refine (hA _ _ _ _).2 (WA.step [0,4] (.cons ?_ (.cons ?_ .nil)))
   ·refine Tw ?_;exact WA.go hA (hS109 q5 q6)
   ·refine Tw ?_;exact WA.go hA (hS124 q5 q6)
  have hS7:A [(8,pt gS),(9,yd p q g h),(10,.pointer (some ⟨gS,18,none⟩)),(2,pt gS),(3,pt gD),(4,.int .i64 0)] [⟨gD,35,dlC ep d (.slice pV V.length cV) (.slice pY Y.length cY) (.slice pP Pr.length cP) sC sS⟩,⟨gS,29,stC p q g h f sec (.slice pN N.length cN)⟩] (bt 9 7) 6:=by
   refine (hA _ _ _ _).2 (WA.step [3,5,6] (.cons ?_ (.cons ?_ (.cons ?_ .nil))))
   ·refine Tw ?_;exact WA.go hA (hS15)
   ·(refine WO.autoM (k:=?_);intro q5);exact WA.go hA (hS39 q5)
   ·(refine WO.autoM (k:=?_);intro q6);exact WA.go hA (hS71 q6)
  have hS35:∀ q5,A [(8,pt gS),(9,yd p q g h),(5,pt q5),(2,pt gS),(3,pt gD),(4,.int .i64 0)] [⟨q5,26,zR 0 0 0 0⟩,⟨gD,35,dlC ep d (.slice pV V.length cV) (.slice pY Y.length cY) (.slice pP Pr.length cP) sC sS⟩,⟨gS,29,stC p q g h f sec (.slice pN N.length cN)⟩] (bt 9 35) 6:=by
   intro q5;refine (hA _ _ _ _).2 (WA.step [2,6] (.cons ?_ (.cons ?_ .nil)))
   ·refine Tw ?_;exact WA.go hA (hS39 q5)
   ·(refine WO.autoM (k:=?_);intro q6);exact WA.go hA (hS99 q5 q6)
  have hS67:∀ q6,A [(8,pt gS),(9,yd p q g h),(6,pt q6),(2,pt gS),(3,pt gD),(4,.int .i64 0)] [⟨q6,3,[.int .i64 0]⟩,⟨gD,35,dlC ep d (.slice pV V.length cV) (.slice pY Y.length cY) (.slice pP Pr.length cP) sC sS⟩,⟨gS,29,stC p q g h f sec (.slice pN N.length cN)⟩] (bt 9 67) 6:=by
   intro q6;refine (hA _ _ _ _).2 (WA.step [2,5] (.cons ?_ (.cons ?_ .nil)))
   ·refine Tw ?_;exact WA.go hA (hS71 q6)
   ·(refine WO.autoM (k:=?_);intro q5);exact WA.go hA (hS99 q5 q6)
  have hS13:A [(8,pt gS),(10,.pointer (some ⟨gS,18,none⟩)),(11,.slice pN N.length cN),(2,pt gS),(3,pt gD),(4,.int .i64 0)] [⟨gD,35,dlC ep d (.slice pV V.length cV) (.slice pY Y.length cY) (.slice pP Pr.length cP) sC sS⟩,⟨gS,29,stC p q g h f sec (.slice pN N.length cN)⟩] (bt 9 13) 6:=by
   refine (hA _ _ _ _).2 (WA.step [1,4,5,6] (.cons ?_ (.cons ?_ (.cons ?_ (.cons ?_ .nil)))))
   ·refine WO.does (zz (vs:=zR p q g h)) ?_;exact WA.go hA (hS15)
   ·refine Tw ?_;exact WA.go hA (hS29)
   ·(refine WO.autoM (k:=?_);intro q5);exact WA.go hA (hS45 q5)
   ·(refine WO.autoM (k:=?_);intro q6);exact WA.go hA (hS77 q6)
  have hS37:∀ q5,A [(8,pt gS),(10,.pointer (some ⟨gS,18,none⟩)),(5,pt q5),(2,pt gS),(3,pt gD),(4,.int .i64 0)] [⟨q5,26,zR 0 0 0 0⟩,⟨gD,35,dlC ep d (.slice pV V.length cV) (.slice pY Y.length cY) (.slice pP Pr.length cP) sC sS⟩,⟨gS,29,stC p q g h f sec (.slice pN N.length cN)⟩] (bt 9 37) 6:=by
   intro q5;refine (hA _ _ _ _).2 (WA.step [1,3,6] (.cons ?_ (.cons ?_ (.cons ?_ .nil))))
   ·refine WO.does (zz (vs:=zR p q g h)) ?_;exact WA.go hA (hS39 q5)
   ·refine Tw ?_;exact WA.go hA (hS45 q5)
   ·(refine WO.autoM (k:=?_);intro q6);exact WA.go hA (hS101 q5 q6)
  have hS69:∀ q6,A [(8,pt gS),(10,.pointer (some ⟨gS,18,none⟩)),(6,pt q6),(2,pt gS),(3,pt gD),(4,.int .i64 0)] [⟨q6,3,[.int .i64 0]⟩,⟨gD,35,dlC ep d (.slice pV V.length cV) (.slice pY Y.length cY) (.slice pP Pr.length cP) sC sS⟩,⟨gS,29,stC p q g h f sec (.slice pN N.length cN)⟩] (bt 9 69) 6:=by
   intro q6;refine (hA _ _ _ _).2 (WA.step [1,3,5] (.cons ?_ (.cons ?_ (.cons ?_ .nil))))
   ·refine WO.does (zz (vs:=zR p q g h)) ?_;exact WA.go hA (hS71 q6)
   ·refine Tw ?_;exact WA.go hA (hS77 q6)
   ·(refine WO.autoM (k:=?_);intro q5);exact WA.go hA (hS101 q5 q6)
  have hS97:∀ q5 q6,A [(8,pt gS),(5,pt q5),(6,pt q6),(2,pt gS),(3,pt gD),(4,.int .i64 0)] [⟨q5,26,zR 0 0 0 0⟩,⟨q6,3,[.int .i64 0]⟩,⟨gD,35,dlC ep d (.slice pV V.length cV) (.slice pY Y.length cY) (.slice pP Pr.length cP) sC sS⟩,⟨gS,29,stC p q g h f sec (.slice pN N.length cN)⟩] (bt 9 97) 6:=by
   intro q5 q6;refine (hA _ _ _ _).2 (WA.step [1,2] (.cons ?_ (.cons ?_ .nil)))
   ·refine WO.does (zz (vs:=zR p q g h)) ?_;exact WA.go hA (hS99 q5 q6)
   ·refine Tw ?_;exact WA.go hA (hS101 q5 q6)
  have hS28:A [(10,.pointer (some ⟨gS,18,none⟩)),(11,.slice pN N.length cN),(12,.int .i64 (N.length:Int)),(2,pt gS),(3,pt gD),(4,.int .i64 0)] [⟨gD,35,dlC ep d (.slice pV V.length cV) (.slice pY Y.length cY) (.slice pP Pr.length cP) sC sS⟩,⟨gS,29,stC p q g h f sec (.slice pN N.length cN)⟩] (bt 9 28) 6:=by
   refine (hA _ _ _ _).2 (WA.step [0,5,6] (.cons ?_ (.cons ?_ (.cons ?_ .nil))))
   ·refine Tw ?_;exact WA.go hA (hS29)
   ·(refine WO.autoM (k:=?_);intro q5);exact WA.go hA (hS60 q5)
   ·(refine WO.autoM (k:=?_);intro q6);exact WA.go hA (hS92 q6)
  have hS44:∀ q5,A [(10,.pointer (some ⟨gS,18,none⟩)),(11,.slice pN N.length cN),(5,pt q5),(2,pt gS),(3,pt gD),(4,.int .i64 0)] [⟨q5,26,zR 0 0 0 0⟩,⟨gD,35,dlC ep d (.slice pV V.length cV) (.slice pY Y.length cY) (.slice pP Pr.length cP) sC sS⟩,⟨gS,29,stC p q g h f sec (.slice pN N.length cN)⟩] (bt 9 44) 6:=by
   intro q5;refine (hA _ _ _ _).2 (WA.step [0,4,6] (.cons ?_ (.cons ?_ (.cons ?_ .nil))))
   ·refine Tw ?_;exact WA.go hA (hS45 q5)
   ·refine Tw ?_;exact WA.go hA (hS60 q5)
   ·(refine WO.autoM (k:=?_);intro q6);exact WA.go hA (hS108 q5 q6)
  have hS76:∀ q6,A [(10,.pointer (some ⟨gS,18,none⟩)),(11,.slice pN N.length cN),(6,pt q6),(2,pt gS),(3,pt gD),(4,.int .i64 0)] [⟨q6,3,[.int .i64 0]⟩,⟨gD,35,dlC ep d (.slice pV V.length cV) (.slice pY Y.length cY) (.slice pP Pr.length cP) sC sS⟩,⟨gS,29,stC p q g h f sec (.slice pN N.length cN)⟩] (bt 9 76) 6:=by
   intro q6;refine (hA _ _ _ _).2 (WA.step [0,4,5] (.cons ?_ (.cons ?_ (.cons ?_ .nil))))
   ·refine Tw ?_;exact WA.go hA (hS77 q6)
   ·refine Tw ?_;exact WA.go hA (hS92 q6)
   ·(refine WO.autoM (k:=?_);intro q5);exact WA.go hA (hS108 q5 q6)
  have hS100:∀ q5 q6,A [(10,.pointer (some ⟨gS,18,none⟩)),(5,pt q5),(6,pt q6),(2,pt gS),(3,pt gD),(4,.int .i64 0)] [⟨q5,26,zR 0 0 0 0⟩,⟨q6,3,[.int .i64 0]⟩,⟨gD,35,dlC ep d (.slice pV V.length cV) (.slice pY Y.length cY) (.slice pP Pr.length cP) sC sS⟩,⟨gS,29,stC p q g h f sec (.slice pN N.length cN)⟩] (bt 9 100) 6:=by
   intro q5 q6;refine (hA _ _ _ _).2 (WA.step [0,3] (.cons ?_ (.cons ?_ .nil)))
   ·refine Tw ?_;exact WA.go hA (hS101 q5 q6)
   ·refine Tw ?_;exact WA.go hA (hS108 q5 q6)
  have hS3:A [(8,pt gS),(9,yd p q g h),(2,pt gS),(3,pt gD),(4,.int .i64 0)] [⟨gD,35,dlC ep d (.slice pV V.length cV) (.slice pY Y.length cY) (.slice pP Pr.length cP) sC sS⟩,⟨gS,29,stC p q g h f sec (.slice pN N.length cN)⟩] (bt 9 3) 7:=by
   refine (hA _ _ _ _).2 (WA.step [2,5,6] (.cons ?_ (.cons ?_ (.cons ?_ .nil))))
   ·refine Tw ?_;exact WA.go hA (hS7)
   ·(refine WO.autoM (k:=?_);intro q5);exact WA.go hA (hS35 q5)
   ·(refine WO.autoM (k:=?_);intro q6);exact WA.go hA (hS67 q6)
  have hS5:A [(8,pt gS),(10,.pointer (some ⟨gS,18,none⟩)),(2,pt gS),(3,pt gD),(4,.int .i64 0)] [⟨gD,35,dlC ep d (.slice pV V.length cV) (.slice pY Y.length cY) (.slice pP Pr.length cP) sC sS⟩,⟨gS,29,stC p q g h f sec (.slice pN N.length cN)⟩] (bt 9 5) 7:=by
   refine (hA _ _ _ _).2 (WA.step [1,3,5,6] (.cons ?_ (.cons ?_ (.cons ?_ (.cons ?_ .nil)))))
   ·refine WO.does (zz (vs:=zR p q g h)) ?_;exact WA.go hA (hS7)
   ·refine Tw ?_;exact WA.go hA (hS13)
   ·(refine WO.autoM (k:=?_);intro q5);exact WA.go hA (hS37 q5)
   ·(refine WO.autoM (k:=?_);intro q6);exact WA.go hA (hS69 q6)
  have hS33:∀ q5,A [(8,pt gS),(5,pt q5),(2,pt gS),(3,pt gD),(4,.int .i64 0)] [⟨q5,26,zR 0 0 0 0⟩,⟨gD,35,dlC ep d (.slice pV V.length cV) (.slice pY Y.length cY) (.slice pP Pr.length cP) sC sS⟩,⟨gS,29,stC p q g h f sec (.slice pN N.length cN)⟩] (bt 9 33) 7:=by
   intro q5;refine (hA _ _ _ _).2 (WA.step [1,2,6] (.cons ?_ (.cons ?_ (.cons ?_ .nil))))
   ·refine WO.does (zz (vs:=zR p q g h)) ?_;exact WA.go hA (hS35 q5)
   ·refine Tw ?_;exact WA.go hA (hS37 q5)
   ·(refine WO.autoM (k:=?_);intro q6);exact WA.go hA (hS97 q5 q6)
  have hS65:∀ q6,A [(8,pt gS),(6,pt q6),(2,pt gS),(3,pt gD),(4,.int .i64 0)] [⟨q6,3,[.int .i64 0]⟩,⟨gD,35,dlC ep d (.slice pV V.length cV) (.slice pY Y.length cY) (.slice pP Pr.length cP) sC sS⟩,⟨gS,29,stC p q g h f sec (.slice pN N.length cN)⟩] (bt 9 65) 7:=by
   intro q6;refine (hA _ _ _ _).2 (WA.step [1,2,5] (.cons ?_ (.cons ?_ (.cons ?_ .nil))))
   ·refine WO.does (zz (vs:=zR p q g h)) ?_;exact WA.go hA (hS67 q6)
   ·refine Tw ?_;exact WA.go hA (hS69 q6)
   ·(refine WO.autoM (k:=?_);intro q5);exact WA.go hA (hS97 q5 q6)
  have hS12:A [(10,.pointer (some ⟨gS,18,none⟩)),(11,.slice pN N.length cN),(2,pt gS),(3,pt gD),(4,.int .i64 0)] [⟨gD,35,dlC ep d (.slice pV V.length cV) (.slice pY Y.length cY) (.slice pP Pr.length cP) sC sS⟩,⟨gS,29,stC p q g h f sec (.slice pN N.length cN)⟩] (bt 9 12) 7:=by
   refine (hA _ _ _ _).2 (WA.step [0,4,5,6] (.cons ?_ (.cons ?_ (.cons ?_ (.cons ?_ .nil)))))
   ·refine Tw ?_;exact WA.go hA (hS13)
   ·refine Tw ?_;exact WA.go hA (hS28)
   ·(refine WO.autoM (k:=?_);intro q5);exact WA.go hA (hS44 q5)
   ·(refine WO.autoM (k:=?_);intro q6);exact WA.go hA (hS76 q6)
  have hS36:∀ q5,A [(10,.pointer (some ⟨gS,18,none⟩)),(5,pt q5),(2,pt gS),(3,pt gD),(4,.int .i64 0)] [⟨q5,26,zR 0 0 0 0⟩,⟨gD,35,dlC ep d (.slice pV V.length cV) (.slice pY Y.length cY) (.slice pP Pr.length cP) sC sS⟩,⟨gS,29,stC p q g h f sec (.slice pN N.length cN)⟩] (bt 9 36) 7:=by
   intro q5;refine (hA _ _ _ _).2 (WA.step [0,3,6] (.cons ?_ (.cons ?_ (.cons ?_ .nil))))
   ·refine Tw ?_;exact WA.go hA (hS37 q5)
   ·refine Tw ?_;exact WA.go hA (hS44 q5)
   ·(refine WO.autoM (k:=?_);intro q6);exact WA.go hA (hS100 q5 q6)
  have hS68:∀ q6,A [(10,.pointer (some ⟨gS,18,none⟩)),(6,pt q6),(2,pt gS),(3,pt gD),(4,.int .i64 0)] [⟨q6,3,[.int .i64 0]⟩,⟨gD,35,dlC ep d (.slice pV V.length cV) (.slice pY Y.length cY) (.slice pP Pr.length cP) sC sS⟩,⟨gS,29,stC p q g h f sec (.slice pN N.length cN)⟩] (bt 9 68) 7:=by
   intro q6;refine (hA _ _ _ _).2 (WA.step [0,3,5] (.cons ?_ (.cons ?_ (.cons ?_ .nil))))
   ·refine Tw ?_;exact WA.go hA (hS69 q6)
   ·refine Tw ?_;exact WA.go hA (hS76 q6)
   ·(refine WO.autoM (k:=?_);intro q5);exact WA.go hA (hS100 q5 q6)
  have hS96:∀ q5 q6,A [(5,pt q5),(6,pt q6),(2,pt gS),(3,pt gD),(4,.int .i64 0)] [⟨q5,26,zR 0 0 0 0⟩,⟨q6,3,[.int .i64 0]⟩,⟨gD,35,dlC ep d (.slice pV V.length cV) (.slice pY Y.length cY) (.slice pP Pr.length cP) sC sS⟩,⟨gS,29,stC p q g h f sec (.slice pN N.length cN)⟩] (bt 9 96) 7:=by
   intro q5 q6;refine (hA _ _ _ _).2 (WA.step [0,2] (.cons ?_ (.cons ?_ .nil)))
   ·refine Tw ?_;exact WA.go hA (hS97 q5 q6)
   ·refine Tw ?_;exact WA.go hA (hS100 q5 q6)
  have hS1:A [(8,pt gS),(2,pt gS),(3,pt gD),(4,.int .i64 0)] [⟨gD,35,dlC ep d (.slice pV V.length cV) (.slice pY Y.length cY) (.slice pP Pr.length cP) sC sS⟩,⟨gS,29,stC p q g h f sec (.slice pN N.length cN)⟩] (bt 9 1) 8:=by
   refine (hA _ _ _ _).2 (WA.step [1,2,5,6] (.cons ?_ (.cons ?_ (.cons ?_ (.cons ?_ .nil)))))
   ·refine WO.does (zz (vs:=zR p q g h)) ?_;exact WA.go hA (hS3)
   ·refine Tw ?_;exact WA.go hA (hS5)
   ·(refine WO.autoM (k:=?_);intro q5);exact WA.go hA (hS33 q5)
   ·(refine WO.autoM (k:=?_);intro q6);exact WA.go hA (hS65 q6)
  have hS4:A [(10,.pointer (some ⟨gS,18,none⟩)),(2,pt gS),(3,pt gD),(4,.int .i64 0)] [⟨gD,35,dlC ep d (.slice pV V.length cV) (.slice pY Y.length cY) (.slice pP Pr.length cP) sC sS⟩,⟨gS,29,stC p q g h f sec (.slice pN N.length cN)⟩] (bt 9 4) 8:=by
   refine (hA _ _ _ _).2 (WA.step [0,3,5,6] (.cons ?_ (.cons ?_ (.cons ?_ (.cons ?_ .nil)))))
   ·refine Tw ?_;exact WA.go hA (hS5)
   ·refine Tw ?_;exact WA.go hA (hS12)
   ·(refine WO.autoM (k:=?_);intro q5);exact WA.go hA (hS36 q5)
   ·(refine WO.autoM (k:=?_);intro q6);exact WA.go hA (hS68 q6)
  have hS32:∀ q5,A [(5,pt q5),(2,pt gS),(3,pt gD),(4,.int .i64 0)] [⟨q5,26,zR 0 0 0 0⟩,⟨gD,35,dlC ep d (.slice pV V.length cV) (.slice pY Y.length cY) (.slice pP Pr.length cP) sC sS⟩,⟨gS,29,stC p q g h f sec (.slice pN N.length cN)⟩] (bt 9 32) 8:=by
   intro q5;refine (hA _ _ _ _).2 (WA.step [0,2,6] (.cons ?_ (.cons ?_ (.cons ?_ .nil))))
   ·refine Tw ?_;exact WA.go hA (hS33 q5)
   ·refine Tw ?_;exact WA.go hA (hS36 q5)
   ·(refine WO.autoM (k:=?_);intro q6);exact WA.go hA (hS96 q5 q6)
  have hS64:∀ q6,A [(6,pt q6),(2,pt gS),(3,pt gD),(4,.int .i64 0)] [⟨q6,3,[.int .i64 0]⟩,⟨gD,35,dlC ep d (.slice pV V.length cV) (.slice pY Y.length cY) (.slice pP Pr.length cP) sC sS⟩,⟨gS,29,stC p q g h f sec (.slice pN N.length cN)⟩] (bt 9 64) 8:=by
   intro q6;refine (hA _ _ _ _).2 (WA.step [0,2,5] (.cons ?_ (.cons ?_ (.cons ?_ .nil))))
   ·refine Tw ?_;exact WA.go hA (hS65 q6)
   ·refine Tw ?_;exact WA.go hA (hS68 q6)
   ·(refine WO.autoM (k:=?_);intro q5);exact WA.go hA (hS96 q5 q6)
  have hS0:A [(2,pt gS),(3,pt gD),(4,.int .i64 0)] [⟨gD,35,dlC ep d (.slice pV V.length cV) (.slice pY Y.length cY) (.slice pP Pr.length cP) sC sS⟩,⟨gS,29,stC p q g h f sec (.slice pN N.length cN)⟩] (bt 9 0) 9:=by
   refine (hA _ _ _ _).2 (WA.step [0,2,5,6] (.cons ?_ (.cons ?_ (.cons ?_ (.cons ?_ .nil)))))
   ·refine Tw ?_;exact WA.go hA (hS1)
   ·refine Tw ?_;exact WA.go hA (hS4)
   ·(refine WO.autoM (k:=?_);intro q5);exact WA.go hA (hS32 q5)
   ·(refine WO.autoM (k:=?_);intro q6);exact WA.go hA (hS64 q6)
  exact (hA _ _ _ _).2 (WA.less _ _ ((hA _ _ _ _).1 hS0))
 intro q5 q6;refine (hA _ _ _ _).2 (WA.done ?_)
 repeat (first|refine WO.does (zU rfl rfl) ?_|refine Ta ?_|(refine Tm ?_;intro _)|refine Tc ?_|exact Tz)
 rename_i gi
 repeat (first|refine WO.does (zU rfl rfl) ?_|refine Ta ?_|(refine Tm ?_;intro _)|refine Tc ?_|exact Tz)
 refine WO.makes (ze (cs:=[fV (25,[pt gS]),fV (28,[pt gS,pt gD,pt q6,pt gi]),fV (30,[pt q5,pt gD,pt gS]),fV (32,[pt gD,pt q5,pt gS]),fV (34,[pt q5,pt gS,pt gD])]) rfl (by decide) rfl) ?_;intro gR;refine WO.calls (fs:=[]) (cs:=[]) (abu (R:=CkR p q g h f sec pN pV pY pP cN cV cY cP N ep d V Y Pr sC sS gS gD q5 q6 gi) (fun w w' k hm=>CkR.mod (k:=k) (hm:=hm)) _ r gR 5 (by simp) (hAsk gS gD q5 q6 gi)) rfl rfl rfl (fun w1 hm=>⟨Hs.sg hm,⟨Hs.sg hm,Hs.sg hm,Hs.sg hm,Hs.sg hm,Hs.sg hm,hN.mod hm.mod,hV.mod hm.mod,hY.mod hm.mod,hP.mod hm.mod⟩⟩) (fun v N1 hv=>?_);cases r with
 | none =>
  obtain⟨rfl,rfl⟩:=hv
  try dsimp only[List.cons_append,List.nil_append]
  repeat (first|refine Ta ?_|(refine Tm ?_;intro _)|refine WO.acall (hc:=aby) (k:=?_)|refine Tc ?_|exact Tz)
  done
 | some e =>
  obtain⟨gE,rfl,rfl⟩:=hv
  try dsimp only[List.cons_append,List.nil_append]
  repeat (first|refine Ta ?_|(refine Tm ?_;intro _)|refine WO.acallR (hc:=ab1 gE e) (hR:=fun w1 hm=>⟨hH.mod hm.mod (by simp),Hs.sg hm⟩) (k:=?_)|refine Tc ?_|exact Tz)
  done
end
end Sx
end
section
open Go Go.RowKit Go.BigFrame
namespace Sx
section
variable (p q g h:Nat) (f sec:Int) (pN pV pY pP:Option Addr) (cN cV cY cP:Nat) (N:List (Nat × Nat)) (ep d:Nat) (V Y:List Nat) (Pr:List (Nat × Nat)) (sC sS:Nat)
theorem fY {p q g h:Nat} {f sec:Int} {N:List (Nat × Nat)} {c:Nat} (hs:vT p q g h f sec N=true) (hc:f+sec=(c:Int)):c≤N.length:=by
 unfold vT at hs;simp only[Bool.and_eq_true,decide_eq_true_eq] at hs;omega
theorem abP (hp:p<zb) (hq:q<zb) (hg:g<zb) (hh:h<zb) (hN:vh N) (hNl:N.length≤100)
  (hf1 : -9223372036854775808≤f) (hf2:f≤9223372036854775807) (hs1 : -9223372036854775808≤sec) (hs2:sec≤9223372036854775807)
  (hd:d<256) (hV:∀ a∈V,a<zb) (hY:∀ a∈Y,a<zb) (hPr:vh Pr) (hVl:V.length≤100) (hYl:Y.length≤100) (hPl:Pr.length≤100) (hsC:sC<zb) (hsS:sS<zb) (gS gD gg gn gi:Nat) :
  aaF (CkR p q g h f sec pN pV pY pP cN cV cY cP N ep d V Y Pr sC sS gS gD gg gn gi)
   [(25,[pt gS]),(28,[pt gS,pt gD,pt gn,pt gi]),(30,[pt gg,pt gD,pt gS]),(32,[pt gD,pt gg,pt gS]),(34,[pt gg,pt gS,pt gD])] (ckE p q g h f sec N ep d V Y Pr sC sS):=by
 have h2:=adY p q g h f sec pN pV pY pP cN cV cY cP N ep d V Y Pr sC sS gS gD gg gn gi hp hq hg hh hN (by omega) hf1 hf2 hs1 hs2;unfold ckE;cases e0:vT p q g h f sec N with
 | false =>
  rw[e0] at h2;rw[if_neg (by decide)] at h2 ⊢;exact .hit inferInstance h2
 | true =>
 rw[e0,if_pos rfl] at h2;rw[if_pos rfl];refine .go inferInstance h2 ?_;obtain⟨hn1,hn7,hnq,hf0,hs1',hfs5,hgm,hhm⟩:=sX e0;have h3:=adZ p q g h f sec pN pV pY pP cN cV cY cP N ep d V Y Pr sC sS gS gD gg gn gi hp hq hd hNl hn1 (by omega) (by omega) (by omega) hV hY;cases e1:shB p q N d V Y Pr with
 | false =>
  rw[e1] at h3;rw[if_neg (by decide)] at h3 ⊢;exact .hit inferInstance h3
 | true =>
 rw[e1,if_pos rfl] at h3;rw[if_pos rfl];refine .go inferInstance h3 ?_;unfold shB at e1;simp only[Bool.and_eq_true,decide_eq_true_eq] at e1;obtain⟨⟨⟨⟨⟨n1,n2⟩,n3⟩,n4⟩,n5⟩,n6⟩:=e1;obtain⟨hd1,hdn⟩:=oh n1;have hZ:cF p V:=⟨hV,fun z hz=>yZ (List.all_eq_true.1 n5 z hz)⟩;obtain⟨c,hc⟩ : ∃ c:Nat,f+sec=(c:Int):=⟨(f+sec).toNat,by omega⟩;have hcN:=fY e0 hc;have h4:=aer p q g h f sec pN pV pY pP cN cV cY cP N ep d V Y Pr sC sS gS gD gg gn gi N.length c rfl hc n2 hn1 hn7 (by omega) hcN (by omega) hq hp (yB hgm).1 hZ;rw[show (f+sec).toNat=c by omega];cases e2:duB p q N.length c V with
 | false =>
  rw[e2] at h4;rw[if_neg (by decide)] at h4 ⊢;exact .hit inferInstance h4
 | true =>
 rw[e2,if_pos rfl] at h4;rw[if_pos rfl];refine .go inferInstance h4 ?_;have h5:=aeb p q g h f sec pN pV pY pP cN cV cY cP N ep d V Y Pr sC sS gS gD gg gn gi (by omega) (by omega) (by omega) (by omega) hN hV hY hPr hp hq hg;cases e3:cD p q g N V Y Pr with
 | false =>
  rw[e3] at h5;rw[if_neg (by decide)] at h5 ⊢;exact .hit inferInstance h5
 | true =>
 rw[e3,if_pos rfl] at h5;rw[if_pos rfl];refine .go inferInstance h5 ?_;obtain⟨k,hk⟩ : ∃ z,N[d - 1]?=some z:=⟨_,List.getElem?_eq_getElem (by omega)⟩;have hkm:=hN _ (List.mem_of_getElem? hk);have h6:=ad4 p q g h f sec pN pV pY pP cN cV cY cP N ep d V Y Pr sC sS gS gD gg gn gi k hk hd1 hd (by rintro rfl;simp at n2;omega) (by rintro rfl;simp at n3;omega) (by rintro rfl;simp at n4;omega) (by omega) (by omega) (by omega) hkm.1 hkm.2 hp hq hg hsC hsS hgm (uv _ _) (pS _ _);rw[hk,show (some k).getD (0,0)=k from rfl];cases e4:qf p q g k.1 sC sS (v7 ep d V Y Pr) with
 | false =>
  rw[e4] at h6;rw[if_neg (by decide)] at h6 ⊢;exact .hit inferInstance h6
 | true =>
 rw[e4,if_pos rfl] at h6;rw[if_pos rfl];exact .go inferInstance h6 .nil
end
section
variable (p q g h:Nat) (f sec:Int) (pN pV pY pP:Option Addr) (cN cV cY cP:Nat) (N:List (Nat × Nat)) (ep d:Nat) (V Y:List Nat) (Pr:List (Nat × Nat)) (sC sS:Nat)
theorem qM (hp:p<zb) (hq:q<zb) (hg:g<zb) (hh:h<zb) (hN:vh N) (hNl:N.length≤100)
  (hf1 : -9223372036854775808≤f) (hf2:f≤9223372036854775807) (hs1 : -9223372036854775808≤sec) (hs2:sec≤9223372036854775807)
  (hd:d<256) (hV:∀ a∈V,a<zb) (hY:∀ a∈Y,a<zb) (hPr:vh Pr) (hVl:V.length≤100) (hYl:Y.length≤100) (hPl:Pr.length≤100) (hsC:sC<zb) (hsS:sS<zb) :
  Fn Tryz.prog 8 [stV p q g h f sec (.slice pN N.length cN),dlV ep d (.slice pV V.length cV) (.slice pY Y.length cY) (.slice pP Pr.length cP) sC sS]
   (fun w=>(RdF vm (.slice pN N.length cN) N w∧RdF zc (.slice pV V.length cV) V w∧RdF zc (.slice pY Y.length cY) Y w∧RdF pfC (.slice pP Pr.length cP) Pr w)∧mh w) (Is (.int .i64 ((ckE p q g h f sec N ep d V Y Pr sC sS).getD 0))) :=
 dm p q g h f sec pN pV pY pP cN cV cY cP N ep d V Y Pr sC sS _ (fun gS gD gg gn gi=>abP p q g h f sec pN pV pY pP cN cV cY cP N ep d V Y Pr sC sS hp hq hg hh hN hNl hf1 hf2 hs1 hs2 hd hV hY hPr hVl hYl hPl hsC hsS gS gD gg gn gi)
end
end Sx
end
section
open Go Go.RowKit Go.BigFrame
namespace Sx
attribute [local irreducible] DQ DQS WC WI WO WX wd
def na (P:Nat→Nat→Bool) (xs ys:List Nat):Bool:=(List.range xs.length).all fun i=>P (xs[i]?.getD 0) (ys[i]?.getD 0)
theorem iZ {f:Nat} [Cal Tryz.prog f] (caps:List Value) (Pb:Nat→Nat→Bool) (xs ys:List Nat) (px py:Option Addr) (cx cy:Nat) (R:World→Prop) (hst:yu R) (hn:xs.length≤1000)
  (hf:∀ x∈xs,∀ y∈ys,Fn Tryz.prog f ([zf x,zf y]++caps) R (Is (.bool (Pb x y)))) :
  Fn Tryz.prog 50 [.slice px xs.length cx,.slice py ys.length cy,.func (.func f) #[] caps.toArray] (fun w=>RdF zc (.slice px xs.length cx) xs w∧RdF zc (.slice py ys.length cy) ys w∧R w) (Is (.bool (decide (xs.length=ys.length) && na Pb xs ys))):=by
 refine Fn.enter Tryz.func50 rfl rfl rfl ?_;intro w hw;obtain⟨hwx,hwy,hwR⟩:=hw
 by_cases he:xs.length=ys.length
 case neg =>
  rw[decide_eq_false he,Bool.false_and]
  repeat (first|refine WO.does (vY rfl rfl (by omega)) ?_|refine Ta ?_|(refine Tm ?_;intro _)|refine Tc ?_|exact Tz)
  done
 rw[decide_eq_true he,Bool.true_and]
 repeat (first|refine Tw ?_|(refine Tm ?_;intro _)|exact Tz)
 refine WC.dF rfl (by omega) ?_
 repeat (first|refine Tw ?_|(refine Tm ?_;intro _)|exact Tz)
 refine WC.loopI (σ:=Nat) (fun i=>i≤xs.length∧∀ j,j<i→Pb (xs[j]?.getD 0) (ys[j]?.getD 0)=true) (fun i=>[(1,.slice py ys.length cy),(2,.func (.func f) #[] caps.toArray),(15,.slice px xs.length cx),(16,.int .i64 (xs.length:Int)),(17,.int .i64 (i:Int))]) (fun _=>[]) (fun i=>xs.length - i) 0 (fun i hi=>?_) ⟨Nat.zero_le _,fun j hj=>absurd hj (Nat.not_lt_zero _)⟩
 try dsimp only at hi ⊢
 obtain⟨hi,h0⟩:=hi
 by_cases hlt:i<xs.length
 ·obtain⟨x,hx⟩ : ∃ y,xs[i]?=some y:=⟨_,List.getElem?_eq_getElem (by omega)⟩;obtain⟨y,hy⟩ : ∃ z,ys[i]?=some z:=⟨_,List.getElem?_eq_getElem (by omega)⟩;obtain⟨bx,ox,ex,_,hxs⟩:=hwx.get hx;obtain⟨bY,oy,ey,_,hys⟩:=hwy.get hy;subst ex ey;have hcx:cut (xs.flatMap zc) (ox+i*4 - ox) 4=zc x:=by rw[Nat.add_sub_cancel_left];exact zx zy hx
  have hcy:cut (ys.flatMap zc) (oy+i*4 - oy) 4=zc y:=by rw[Nat.add_sub_cancel_left];exact zx zy hy
  have hadd2:IntKind.i64.wrap ((i:Int)+1)=((i+1:Nat):Int):=zl (by omega) (by omega) (by omega);have hF:=hf x (List.mem_of_getElem? hx) y (List.mem_of_getElem? hy);have hb:Pb (xs[i]?.getD 0) (ys[i]?.getD 0)=Pb x y:=by rw[hx,hy];rfl
  cases hr:Pb x y with
  | true =>
   rw[hr] at hF
   repeat (first|refine Tw ?_|(refine Tm ?_;intro _)|exact Tz)
   refine WC.dT rfl (by omega) ?_
   repeat (first|refine WO.does (zh rfl rfl hadd2) ?_|refine Ta ?_|(refine Tm ?_;intro _)|refine WO.does (za (o':=ox+i*4) rfl rfl hlt rfl) ?_|refine WO.does (zk (vs:=zc x) (hs:=hxs) (hle:=Nat.le_add_right _ _) (hc:=hcx)) ?_|refine WO.does (za (o':=oy+i*4) rfl rfl (by omega) rfl) ?_|refine WO.does (zk (vs:=zc y) (hs:=hys) (hle:=Nat.le_add_right _ _) (hc:=hcy)) ?_|refine WO.acallV (hc:=hF) (hR:=fun w' hm=>hst _ _ hwR hm.mod.below) (k:=?_)|refine Tc ?_|exact Tz)
   exact WX.metI (i+1) (hs:=⟨⟨by omega,fun j hj=>by
    by_cases e:j=i
    ·subst e;rw[hb];exact hr
    ·exact h0 j (by omega)⟩,by show xs.length - (i+1)<xs.length - i;omega⟩)
  | false =>
   rw[hr] at hF;rw[show na Pb xs ys=false from nN hlt (by rw[hb];exact hr)]
   repeat (first|refine Tw ?_|(refine Tm ?_;intro _)|exact Tz)
   refine WC.dT rfl (by omega) ?_
   repeat (first|refine Ta ?_|(refine Tm ?_;intro _)|refine WO.does (za (o':=ox+i*4) rfl rfl hlt rfl) ?_|refine WO.does (zk (vs:=zc x) (hs:=hxs) (hle:=Nat.le_add_right _ _) (hc:=hcx)) ?_|refine WO.does (za (o':=oy+i*4) rfl rfl (by omega) rfl) ?_|refine WO.does (zk (vs:=zc y) (hs:=hys) (hle:=Nat.le_add_right _ _) (hc:=hcy)) ?_|refine WO.acallV (hc:=hF) (hR:=fun w' hm=>hst _ _ hwR hm.mod.below) (k:=?_)|refine Tc ?_|exact Tz)
   done
 ·have hi2:i=xs.length:=by omega
  rw[show na Pb xs ys=true by
   unfold na;rw[List.all_eq_true];exact fun j hj=>h0 j (by have:=List.mem_range.1 hj;omega)]
  repeat (first|refine Tw ?_|(refine Tm ?_;intro _)|exact Tz)
  refine WC.dF rfl (by omega) ?_
  repeat (first|refine Tw ?_|(refine Tm ?_;intro _)|exact Tz)
  done
section
variable (p q g h:Nat) (f sec:Int) (pN pV pY pP:Option Addr) (cN cV cY cP:Nat) (N:List (Nat × Nat)) (ep d:Nat) (V Y:List Nat) (Pr:List (Nat × Nat)) (sC sS:Nat) (l:List Nat) (pz:Option Addr) (cz:Nat)
theorem aU (v x gS:Nat) (hv:v<zb) (hx:x<zb) (hg:g<zb) (hp:p<zb):Fn Tryz.prog 51 ([zf v,zf x]++[pt gS]) (fun w=>Seg w gS 0 (stC p q g h f sec (.slice pN N.length cN))) (Is (.bool (decide (v=exN p g x)))):=by
 have hE:=j2 p q g h g x hg hx hp;simp only[rE] at hE;rw[show okV (vo p g) (g ^ x%p)=exN p g x from rfl] at hE;have hl:exN p g x<zb:=aaV (n:=x) (a:=g) hp;generalize exN p g x=y at *;generalize okE (vo p g)=e at *;refine Fn.enter Tryz.func51 rfl rfl rfl ?_;intro w hw
 repeat (first|refine Ta ?_|(refine Tm ?_;intro _)|refine WO.does (zk (vs:=zR p q g h) (hs:=hw)) ?_|refine WO.does (zk (vs:=zc g) (hs:=hw)) ?_|refine WO.acall (hc:=hE) (k:=?_)|refine WO.does (sD (a:=y) (b:=v) (r:=decide (v=y)) rfl rfl hl hv (decide_eq_decide.2 eq_comm)) ?_|refine Tc ?_|exact Tz)
 done
def ac4 (p q g h:Nat) (f sec:Int) (N:List (Nat × Nat)) (V l:List Nat):Bool:=vT p q g h f sec N && (decide ((l.length:Int)=f+sec) && uE q l) && (decide (V.length=N.length) && na (fun v x=>decide (v=exN p g x)) V (shL q l N.length))
theorem mc {q n:Nat} {l:List Nat}:(shL q l n).length=n:=by simp[shL]
theorem eX {q n:Nat} {l:List Nat} (h:0<q):∀ a∈shL q l n,a<q:=fun a ha=>by
 unfold shL at ha;obtain⟨j,_,rfl⟩:=List.mem_map.1 ha;exact Nat.mod_lt _ h
theorem abH (hp:p<zb) (hq:q<zb) (hg:g<zb) (hh:h<zb) (hN:vh N) (hNl:N.length≤100)
  (hf1 : -9223372036854775808≤f) (hf2:f≤9223372036854775807) (hs1 : -9223372036854775808≤sec) (hs2:sec≤9223372036854775807)
  (hV:∀ a∈V,a<zb) (hVl:V.length≤100) (hl:∀ a∈l,a<zb) (hn:l.length≤100) :
  Fn Tryz.prog 12 [stV p q g h f sec (.slice pN N.length cN),dlV ep d (.slice pV V.length cV) (.slice pY Y.length cY) (.slice pP Pr.length cP) sC sS,.slice pz l.length cz]
   (fun w=>RdF vm (.slice pN N.length cN) N w∧RdF zc (.slice pV V.length cV) V w∧RdF zc (.slice pz l.length cz) l w) (Is (.bool (ac4 p q g h f sec N V l))):=by
 have hS:=lj p q g h f sec pN cN N hp hq hg hh hN (by omega) hf1 hf2 hs1 hs2;unfold ac4;cases e0:vT p q g h f sec N with
 | false =>
  rw[e0] at hS;refine Fn.enter Tryz.func12 rfl rfl rfl ?_;intro w hw;obtain⟨hwN,hwV,hwl⟩:=hw
  repeat (first|refine Ta ?_|(refine Tm ?_;intro _)|refine WO.acallR (hc:=hS) (hR:=fun w1 hm=>(hwN.mod hm.mod)) (k:=?_)|refine Tc ?_|exact Tz)
  done
 | true =>
 rw[e0] at hS;obtain⟨hn1,hn7,hnq,hf0,hs1',hfs5,hgm,hhm⟩:=sX e0;have hP:=acX p q g h f sec (.slice pN N.length cN) l pz cz hl (by omega) hq ⟨hf0,by omega,hfs5⟩;cases e1:(decide ((l.length:Int)=f+sec) && uE q l) with
 | false =>
  rw[e1] at hP;refine Fn.enter Tryz.func12 rfl rfl rfl ?_;intro w hw;obtain⟨hwN,hwV,hwl⟩:=hw
  repeat (first|refine Ta ?_|(refine Tm ?_;intro _)|refine WO.acallR (hc:=hS) (hR:=fun w1 hm=>(hwN.mod hm.mod)) (k:=?_)|refine WO.acallR (hc:=hP) (hR:=fun w1 hm=>(hwl.mod hm.mod)) (k:=?_)|refine Tc ?_|exact Tz)
  done
 | true =>
 rw[e1] at hP;have hall:uE q l=true:=by rw[Bool.and_eq_true] at e1;exact e1.2
 have hO:=adG p q g h l pz cz N.length hl (by omega) hq hall hn1 hn7 (by omega);have hE:=fun gS gL=>iZ (f:=51) [pt gS] (fun v x=>decide (v=exN p g x)) V (shL q l N.length) pV (some ⟨gL,0,none⟩) cV N.length (fun w=>Seg w gS 0 (stC p q g h f sec (.slice pN N.length cN))) yu.seg (by omega) (fun v hv x hx=>aU p q g h f sec pN cN N v x gS (hV v hv) (Nat.lt_trans (eX (by omega) x hx) hq) hg hp);rw[mc] at hE;have hlen:(shL q l N.length).length=N.length:=mc;generalize shL q l N.length=S at *;generalize na (fun v x=>decide (v=exN p g x)) V S=b at *;refine Fn.enter Tryz.func12 rfl rfl rfl ?_;intro w hw;obtain⟨hwN,hwV,hwl⟩:=hw
 repeat (first|refine Ta ?_|(refine Tm ?_;intro _)|refine WO.acallR (hc:=hS) (hR:=fun w1 hm=>(hwN.mod hm.mod)) (k:=?_)|refine WO.acallR (hc:=hP) (hR:=fun w1 hm=>(hwl.mod hm.mod)) (k:=?_)|refine Tc ?_|exact Tz)
 refine WO.calls (fs:=[]) (cs:=[]) hO rfl rfl rfl (fun w1 hm=>hwl.mod hm.mod) (fun u N1 hu=>?_);obtain⟨s,rfl,rfl,_⟩:=hu;generalize s 0=gL
 try dsimp only[List.cons_append,List.nil_append]
 repeat (first|refine WO.does (zU rfl rfl) ?_|refine Ta ?_|(refine Tm ?_;intro _)|refine WO.acallR (hc:=hE _ _) (hR:=fun w1 hm=>⟨hwV.mod hm.mod,RdF.ownD (Hs.sg hm) hlen,Hs.sg hm⟩) (k:=?_)|refine Tc ?_|exact Tz)
 done
end
theorem dh {xs:List Nat} {r:List Value} {i x:Nat} (hx:xs[i]?=some x):cut (xs.flatMap zc++r) (i*4) 4=zc x:=by
 have hlt:i<xs.length:=(List.getElem?_eq_some_iff.1 hx).1;have hl:(xs.flatMap zc).length=xs.length*4:=zG zy xs;rw[← zx zy hx];unfold cut;rw[List.drop_append_of_le_length (by omega),List.take_append_of_le_length (by rw[List.length_drop];omega)]
section
variable (p q g h:Nat) (f sec:Int) (pN pV pY pP:Option Addr) (cN cV cY cP:Nat) (N:List (Nat × Nat)) (ep d:Nat) (V Y:List Nat) (Pr:List (Nat × Nat)) (sC sS:Nat) (l:List Nat) (pz:Option Addr) (cz:Nat)
theorem dx (hp:p<zb) (hq:q<zb) (hg:g<zb) (hh:h<zb) (hN:vh N) (hNl:N.length≤100)
  (hf1 : -9223372036854775808≤f) (hf2:f≤9223372036854775807) (hs1 : -9223372036854775808≤sec) (hs2:sec≤9223372036854775807)
  (hV:∀ a∈V,a<zb) (hVl:V.length≤100) (hl:∀ a∈l,a<zb) (hn:l.length≤100) :
  Fn Tryz.prog 13 [stV p q g h f sec (.slice pN N.length cN),dlV ep d (.slice pV V.length cV) (.slice pY Y.length cY) (.slice pP Pr.length cP) sC sS,.slice pz l.length cz]
   (fun w=>RdF vm (.slice pN N.length cN) N w∧RdF zc (.slice pV V.length cV) V w∧RdF zc (.slice pz l.length cz) l w) (Is (.bool (ac4 p q g h f sec N V l))):=by
 have hS:=qO p q g h f sec pN cN N hp hq hg hh hN (by omega) hf1 hf2 hs1 hs2;unfold ac4;cases e0:vT p q g h f sec N with
 | false =>
  rw[e0] at hS;refine Fn.enter Tryz.func13 rfl rfl rfl ?_;intro w hw;obtain⟨hwN,hwV,hwl⟩:=hw
  repeat (first|refine Ta ?_|(refine Tm ?_;intro _)|refine WO.acallR (hc:=hS) (hR:=fun w1 hm=>(hwN.mod hm.mod)) (k:=?_)|refine Tc ?_|exact Tz)
  done
 | true =>
 rw[e0] at hS;obtain⟨hn1,hn7,hnq,hf0,hs1',hfs5,hgm,hhm⟩:=sX e0;have hP:=aR p q g h f sec (.slice pN N.length cN) l pz cz hl (by omega) hq ⟨hf0,by omega,hfs5⟩;cases e1:(decide ((l.length:Int)=f+sec) && uE q l) with
 | false =>
  rw[e1] at hP;refine Fn.enter Tryz.func13 rfl rfl rfl ?_;intro w hw;obtain⟨hwN,hwV,hwl⟩:=hw
  repeat (first|refine Ta ?_|(refine Tm ?_;intro _)|refine WO.acallR (hc:=hS) (hR:=fun w1 hm=>(hwN.mod hm.mod)) (k:=?_)|refine WO.acallR (hc:=hP) (hR:=fun w1 hm=>(hwl.mod hm.mod)) (k:=?_)|refine Tc ?_|exact Tz)
  done
 | true =>
 rw[e1] at hP;have hall:uE q l=true:=by rw[Bool.and_eq_true] at e1;exact e1.2
 have hO:=adE p q g h l pz cz N.length hl (by omega) hq hall hn1 hn7 (by omega);have hlen:(shL q l N.length).length=N.length:=mc;have hlt' : ∀ a∈shL q l N.length,a<q:=eX (by omega);generalize shL q l N.length=S at *;refine Fn.enter Tryz.func13 rfl rfl rfl ?_;intro w hw;obtain⟨hwN,hwV,hwl⟩:=hw
 repeat (first|refine Ta ?_|(refine Tm ?_;intro _)|refine WO.acallR (hc:=hS) (hR:=fun w1 hm=>(hwN.mod hm.mod)) (k:=?_)|refine WO.acallR (hc:=hP) (hR:=fun w1 hm=>(hwl.mod hm.mod)) (k:=?_)|refine Tc ?_|exact Tz)
 by_cases he:V.length=N.length
 case neg =>
  rw[decide_eq_false he];rw[decide_eq_true (show (V.length:Int)≠(N.length:Int) by omega)]
  repeat (first|refine Tw ?_|(refine Tm ?_;intro _)|exact Tz)
  done
 rw[decide_eq_true he];rw[decide_eq_false (show ¬ (V.length:Int)≠(N.length:Int) by omega)]
 repeat (first|refine Tw ?_|(refine Tm ?_;intro _)|exact Tz)
 rename_i gS gD;refine WO.calls (fs:=[]) (cs:=[]) hO rfl rfl rfl (fun w1 hm=>hwl.mod hm.mod) (fun u N1 hu=>?_);obtain⟨gL,cL,rL,rfl,rfl⟩:=hu
 try dsimp only[List.cons_append,List.nil_append]
 repeat (first|refine Tw ?_|(refine Tm ?_;intro _)|exact Tz)
 obtain⟨x0,hx0⟩ : ∃ x,V[0]?=some x:=⟨_,List.getElem?_eq_getElem (by omega)⟩;obtain⟨bV,oV,eV,_,hVs⟩:=hwV.get hx0;subst eV;clear hx0;refine WC.loopI (σ:=Nat) (fun i=>i≤N.length∧∀ j,j<i→decide ((V[j]?.getD 0)=exN p g (S[j]?.getD 0))=true) (fun i=>[(3,pt gS),(4,pt gD),(7,.slice (some ⟨gL,0,none⟩) N.length cL),(9,.int .i64 (i:Int))]) (fun _=>[⟨gL,24,S.flatMap zc++rL⟩,⟨gD,35,dlC ep d (.slice (some ⟨bV,oV,none⟩) V.length cV) (.slice pY Y.length cY) (.slice pP Pr.length cP) sC sS⟩,⟨gS,29,stC p q g h f sec (.slice pN N.length cN)⟩]) (fun i=>N.length - i) 0 (fun i hi=>?_) ⟨Nat.zero_le _,fun j hj=>absurd hj (Nat.not_lt_zero _)⟩
 try dsimp only at hi ⊢
 obtain⟨hi,h0⟩:=hi
 by_cases hlt:i<N.length
 ·obtain⟨x,hx⟩ : ∃ y,V[i]?=some y:=⟨_,List.getElem?_eq_getElem (by omega)⟩;obtain⟨y,hy⟩ : ∃ z,S[i]?=some z:=⟨_,List.getElem?_eq_getElem (by omega)⟩;have hcV:cut (V.flatMap zc) (oV+i*4 - oV) 4=zc x:=by rw[Nat.add_sub_cancel_left];exact zx zy hx
  have hcL:cut (S.flatMap zc++rL) (0+i*4) 4=zc y:=by rw[Nat.zero_add];exact dh hy
  have hadd2:IntKind.i64.wrap ((i:Int)+1)=((i+1:Nat):Int):=zl (by omega) (by omega) (by omega);have hyq:=hlt' y (List.mem_of_getElem? hy);have hxb:=hV x (List.mem_of_getElem? hx);have hPw:=dI p q g h g y hg (Nat.lt_trans hyq hq) hp;have hyl:exN p g y<zb:=aaV (n:=y) (a:=g) hp;have hb:decide ((V[i]?.getD 0)=exN p g (S[i]?.getD 0))=decide (x=exN p g y):=by rw[hx,hy];rfl
  generalize exN p g y=z at hPw hyl hb
  repeat (first|refine Tw ?_|(refine Tm ?_;intro _)|exact Tz)
  refine WC.dT rfl (by omega) ?_
  repeat (first|refine Tw ?_|(refine Tm ?_;intro _)|exact Tz)
  refine WC.adraw 16 (k:=?_)
  iterate 3 (first|refine Da ?_|refine Dc ?_)
  refine DQ.does (fun s _=>za (o':=oV+i*4) rfl rfl (by omega) rfl) Dp.const ?_;refine DQ.does (fun s _=>zk (vs:=zc x) (hs:=hVs) (hle:=Nat.le_add_right _ _) (hc:=hcV)) Dp.const ?_
  iterate 1 (first|refine Da ?_|refine Dc ?_)
  refine DQ.does (fun s _=>zz (vs:=zR p q g h)) Dp.const ?_
  iterate 5 (first|refine Da ?_|refine Dc ?_)
  refine DQ.does (fun s _=>za (o':=0+i*4) rfl rfl hlt rfl) Dp.const ?_;refine DQ.does (fun s _=>zz (vs:=zc y) (hc:=hcL)) Dp.const ?_;refine DQ.acallM (hc:=hPw) (hR:=fun _ _=>trivial) (k:=?_)
  iterate 1 (first|refine Da ?_|refine Dc ?_)
  refine DQ.anil (k:=?_);intro sx _
  by_cases hxz:x=z
  ·repeat (first|refine Tw ?_|(refine Tm ?_;intro _)|exact Tz)
   refine WC.dF rfl (by simpa using hxz) ?_
   repeat (first|refine WO.does (zh rfl rfl hadd2) ?_|refine Ta ?_|(refine Tm ?_;intro _)|refine Tc ?_|exact Tz)
   exact WX.metI (i+1) (hs:=⟨⟨by omega,fun j hj=>by
    by_cases e:j=i
    ·subst e;rw[hb];exact decide_eq_true hxz
    ·exact h0 j (by omega)⟩,by show N.length - (i+1)<N.length - i;omega⟩)
  ·rw[show na (fun v x=>decide (v=exN p g x)) V S=false from nN (i:=i) (by omega) (hb.trans (decide_eq_false hxz))]
   repeat (first|refine Tw ?_|(refine Tm ?_;intro _)|exact Tz)
   refine WC.dT rfl (by simpa using hxz) ?_
   repeat (first|refine Tw ?_|(refine Tm ?_;intro _)|exact Tz)
   done
 ·have hi2:i=N.length:=by omega
  rw[show na (fun v x=>decide (v=exN p g x)) V S=true by
   unfold na;rw[List.all_eq_true];exact fun j hj=>h0 j (by have:=List.mem_range.1 hj;omega)]
  repeat (first|refine Tw ?_|(refine Tm ?_;intro _)|exact Tz)
  refine WC.dF rfl (by omega) ?_
  repeat (first|refine Tw ?_|(refine Tm ?_;intro _)|exact Tz)
  done
end
end Sx
end
end Go.Proofs.YtbbppkkhidkjpaaGreatDoor
