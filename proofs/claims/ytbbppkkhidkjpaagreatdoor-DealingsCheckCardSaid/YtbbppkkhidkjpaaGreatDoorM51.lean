/- Part 51 of the proof. -/
import Derived.Test.YtbbppkkhidkjpaaGreatDoorM49
import Derived.Test.YtbbppkkhidkjpaaGreatDoorM50
set_option linter.unusedSimpArgs false
set_option linter.unusedVariables false
set_option maxHeartbeats 8000000
namespace Go.Proofs.YtbbppkkhidkjpaaGreatDoor
section
open Go Go.RowKit Go.BigFrame
namespace Sx
attribute [local irreducible] DQ DQS WC WI WO WX wd
section
variable (p q g h:Nat) (f sec:Int) (pN pV pY pP:Option Addr) (cN cV cY cP:Nat) (N:List (Nat × Nat)) (ep d:Nat) (V Y:List Nat) (Pr:List (Nat × Nat)) (sC sS:Nat)
theorem bu {p q g h:Nat} {f sec:Int} {N:List (Nat × Nat)} {c:Nat} (hs:vT p q g h f sec N=true) (hc:f+sec=(c:Int)):c≤N.length:=by
 unfold vT at hs;simp only[Bool.and_eq_true,decide_eq_true_eq] at hs;omega
theorem ci (n:Nat) (hn:n<256) (hNl:N.length≤1099511627776):Fn Tryz.prog 37 [stV p q g h f sec (.slice pN N.length cN),.int .u8 (n:Int)] Tr (Is (.bool (nE n N))):=by
 have hcv:IntKind.i64.wrap (n:Int)=(n:Int):=i64_in (by omega) (by omega);unfold nE
 by_cases h1:1≤n
 ·rw[decide_eq_true h1,Bool.true_and];have d1:decide ((1:Int)≤(n:Int))=true:=decide_eq_true (by omega);have d2:decide ((n:Int)≤(N.length:Int))=decide (n≤N.length):=by simp
  refine Fn.enter Tryz.func37 rfl rfl rfl ?_;intro w hw
  repeat (first|refine Tw ?_|(refine Tm ?_;intro _)|exact Tz)
  rw[d1]
  repeat (first|refine Ta ?_|(refine Tm ?_;intro _)|refine WO.does (zu rfl hcv) ?_|refine Tc ?_|exact Tz)
  rw[d2]
  repeat (first|refine Tw ?_|(refine Tm ?_;intro _)|exact Tz)
 ·rw[decide_eq_false h1,Bool.false_and];have d1:decide ((1:Int)≤(n:Int))=false:=decide_eq_false (by omega);refine Fn.enter Tryz.func37 rfl rfl rfl ?_;intro w hw
  repeat (first|refine Tw ?_|(refine Tm ?_;intro _)|exact Tz)
  rw[d1]
  repeat (first|refine Tw ?_|(refine Tm ?_;intro _)|exact Tz)
theorem dM (hp:p<zb) (hq:q<zb) (hg:g<zb) (hh:h<zb) (hN:vh N) (hNl:N.length≤100)
  (hf1 : -9223372036854775808≤f) (hf2:f≤9223372036854775807) (hs1 : -9223372036854775808≤sec) (hs2:sec≤9223372036854775807)
  (hep:ep<18446744073709551616) (hd:d<256) (hV:∀ a∈V,a<zb) (hY:∀ a∈Y,a<zb) (hPr:vh Pr) (hVl:V.length≤100) (hYl:Y.length≤100) (hPl:Pr.length≤100) (hsC:sC<zb) (hsS:sS<zb) :
  Fn Tryz.prog 9 [stV p q g h f sec (.slice pN N.length cN),dlV ep d (.slice pV V.length cV) (.slice pY Y.length cY) (.slice pP Pr.length cP) sC sS]
   (fun w=>RdF vm (.slice pN N.length cN) N w∧RdF zc (.slice pV V.length cV) V w∧RdF zc (.slice pY Y.length cY) Y w∧RdF pfC (.slice pP Pr.length cP) Pr w) (Is (.int .i64 ((ckE p q g h f sec N ep d V Y Pr sC sS).getD 0))):=by
 have hNo:=ci p q g h f sec pN cN N d hd (by omega);have hSt:=qO p q g h f sec pN cN N hp hq hg hh hN (by omega) hf1 hf2 hs1 hs2;generalize hr:(ckE p q g h f sec N ep d V Y Pr sC sS).getD 0=r;unfold ckE at hr;cases e0:vT p q g h f sec N with
 | false =>
  rw[e0] at hSt hr;obtain rfl:(1:Int)=r:=by simpa using hr
  refine Fn.enter Tryz.func9 rfl rfl rfl ?_;intro w hw;obtain⟨hwN,hwV,hwY,hwP⟩:=hw
  repeat (first|refine Ta ?_|(refine Tm ?_;intro _)|refine WO.acallR (hc:=hSt) (hR:=fun w1 hm=>(hwN.mod hm.mod)) (k:=?_)|refine Tc ?_|exact Tz)
  done
 | true =>
 rw[e0] at hSt hr;rw[if_pos rfl] at hr;obtain⟨hn1,hn7,hnq,hf0,hs1',hfs5,hgm,hhm⟩:=sX e0;cases e1:nE d N with
 | false =>
  rw[e1] at hNo;rw[show shB p q N d V Y Pr=false by unfold shB;rw[e1];rfl] at hr;obtain rfl:(4:Int)=r:=by simpa using hr
  refine Fn.enter Tryz.func9 rfl rfl rfl ?_;intro w hw;obtain⟨hwN,hwV,hwY,hwP⟩:=hw
  repeat (first|refine Ta ?_|(refine Tm ?_;intro _)|refine WO.acallR (hc:=hSt) (hR:=fun w1 hm=>(hwN.mod hm.mod)) (k:=?_)|refine WO.acall (hc:=hNo) (k:=?_)|refine Tc ?_|exact Tz)
  done
 | true =>
 rw[e1] at hNo;have hsh:shB p q N d V Y Pr=(decide (V.length=N.length) && decide (Y.length=N.length) && decide (Pr.length=N.length) && V.all (gIn p q) && Y.all (gIn p q)):=by unfold shB;rw[e1,Bool.true_and]
 refine Fn.enter Tryz.func9 rfl rfl rfl ?_;intro w hw;obtain⟨hwN,hwV,hwY,hwP⟩:=hw
 repeat (first|refine Ta ?_|(refine Tm ?_;intro _)|refine WO.acallR (hc:=hSt) (hR:=fun w1 hm=>(hwN.mod hm.mod)) (k:=?_)|refine WO.acall (hc:=hNo) (k:=?_)|refine Tc ?_|exact Tz)
 have len4:∀ b:Bool,(if b=true then (if duB p q N.length (f+sec).toNat V=true then (if cD p q g N V Y Pr=true then (if qf p q g (N[d - 1]?.getD (0,0)).1 sC sS (v7 ep d V Y Pr)=true then none else some 10) else some 11) else some 12) else some 4).getD (0:Int)=r→b=false→(4:Int)=r:=fun b hb e=>by rw[e] at hb;simpa using hb
 rw[hsh] at hr
 by_cases e2:V.length=N.length
 case neg =>
  obtain rfl:=len4 _ hr (by rw[decide_eq_false e2];rfl);rw[decide_eq_true (show (V.length:Int)≠(N.length:Int) by omega)]
  repeat (first|refine Tw ?_|(refine Tm ?_;intro _)|exact Tz)
  done
 rw[decide_eq_false (show ¬ (V.length:Int)≠(N.length:Int) by omega)]
 repeat (first|refine Tw ?_|(refine Tm ?_;intro _)|exact Tz)
 by_cases e3:Y.length=N.length
 case neg =>
  obtain rfl:=len4 _ hr (by rw[decide_eq_false e3];simp);rw[decide_eq_true (show (Y.length:Int)≠(N.length:Int) by omega)]
  repeat (first|refine Tw ?_|(refine Tm ?_;intro _)|exact Tz)
  done
 rw[decide_eq_false (show ¬ (Y.length:Int)≠(N.length:Int) by omega)]
 repeat (first|refine Tw ?_|(refine Tm ?_;intro _)|exact Tz)
 by_cases e4:Pr.length=N.length
 case neg =>
  obtain rfl:=len4 _ hr (by rw[decide_eq_false e4];simp);rw[decide_eq_true (show (Pr.length:Int)≠(N.length:Int) by omega)]
  repeat (first|refine Tw ?_|(refine Tm ?_;intro _)|exact Tz)
  done
 rw[decide_eq_false (show ¬ (Pr.length:Int)≠(N.length:Int) by omega)]
 repeat (first|refine Tw ?_|(refine Tm ?_;intro _)|exact Tz)
 rename_i gS gD gg;obtain⟨x0,hx0⟩ : ∃ x,V[0]?=some x:=⟨_,List.getElem?_eq_getElem (by omega)⟩;obtain⟨y0,hy0⟩ : ∃ x,Y[0]?=some x:=⟨_,List.getElem?_eq_getElem (by omega)⟩;obtain⟨k0,hk0⟩ : ∃ x,N[0]?=some x:=⟨_,List.getElem?_eq_getElem (by omega)⟩;obtain⟨p0,hp0⟩ : ∃ x,Pr[0]?=some x:=⟨_,List.getElem?_eq_getElem (by omega)⟩;obtain⟨bV,oV,eV,_,hVs⟩:=hwV.get hx0;obtain⟨bY,oY,eY,_,hYs⟩:=hwY.get hy0;obtain⟨bN,oN,eN,_,hNs⟩:=hwN.get hk0;obtain⟨bP,oP,eP,_,hPs⟩:=hwP.get hp0;subst eV eY eN eP;clear hx0 hy0 hk0 hp0;refine WC.loopI (σ:=Nat) (fun i=>i≤N.length∧∀ j,j<i→(∀ x,V[j]?=some x→gIn p q x=true)∧(∀ y,Y[j]?=some y→gIn p q y=true)) (fun i=>[(2,pt gS),(3,pt gD),(5,.int .i64 (N.length:Int)),(6,pt gg),(7,.int .i64 (i:Int))]) (fun _=>[⟨gg,26,zR p q g h⟩,⟨gD,35,dlC ep d (.slice (some ⟨bV,oV,none⟩) V.length cV) (.slice (some ⟨bY,oY,none⟩) Y.length cY) (.slice (some ⟨bP,oP,none⟩) Pr.length cP) sC sS⟩,⟨gS,29,stC p q g h f sec (.slice (some ⟨bN,oN,none⟩) N.length cN)⟩]) (fun i=>N.length - i) 0 (fun i hi=>?_) ⟨Nat.zero_le _,fun j hj=>absurd hj (Nat.not_lt_zero _)⟩
 try dsimp only at hi ⊢
 obtain⟨hi,h0⟩:=hi
 by_cases hlt:i<N.length
 ·obtain⟨x,hx⟩ : ∃ y,V[i]?=some y:=⟨_,List.getElem?_eq_getElem (by omega)⟩;obtain⟨y,hy⟩ : ∃ z,Y[i]?=some z:=⟨_,List.getElem?_eq_getElem (by omega)⟩;have hcV:cut (V.flatMap zc) (oV+i*4 - oV) 4=zc x:=by rw[Nat.add_sub_cancel_left];exact zx zy hx
  have hcY:cut (Y.flatMap zc) (oY+i*4 - oY) 4=zc y:=by rw[Nat.add_sub_cancel_left];exact zx zy hy
  have hadd2:IntKind.i64.wrap ((i:Int)+1)=((i+1:Nat):Int):=zl (by omega) (by omega) (by omega);have hI1:=qa p q g h x (hV _ (List.mem_of_getElem? hx)) hp hq;have hI2:=qa p q g h y (hY _ (List.mem_of_getElem? hy)) hp hq
  repeat (first|refine Tw ?_|(refine Tm ?_;intro _)|exact Tz)
  refine WC.dT rfl (by omega) ?_
  repeat (first|refine Tw ?_|(refine Tm ?_;intro _)|exact Tz)
  refine WC.adraw 18 (k:=?_)
  iterate 4 (first|refine Da ?_|refine Dc ?_)
  refine DQ.does (fun s _=>za (o':=oV+i*4) rfl rfl (by omega) rfl) Dp.const ?_;refine DQ.does (fun s _=>zk (vs:=zc x) (hs:=hVs) (hle:=Nat.le_add_right _ _) (hc:=hcV)) Dp.const ?_;cases g1:gIn p q x with
  | false =>
   rw[g1] at hI1;obtain rfl:=len4 _ hr (by rw[show V.all (gIn p q)=false from te hx g1];simp);refine DQ.acallM (hc:=hI1) (hR:=fun _ _=>trivial) (k:=?_)
   iterate 11 (first|refine Da ?_|refine Dc ?_)
   refine DQ.anil (k:=?_);intro sx _
   repeat (first|refine Tw ?_|(refine Tm ?_;intro _)|exact Tz)
   done
  | true =>
   rw[g1] at hI1;refine DQ.acallM (hc:=hI1) (hR:=fun _ _=>trivial) (k:=?_)
   iterate 6 (first|refine Da ?_|refine Dc ?_)
   refine DQ.does (fun s _=>za (o':=oY+i*4) rfl rfl (by omega) rfl) Dp.const ?_;refine DQ.does (fun s _=>zk (vs:=zc y) (hs:=hYs) (hle:=Nat.le_add_right _ _) (hc:=hcY)) Dp.const ?_;cases g2:gIn p q y with
   | false =>
    rw[g2] at hI2;obtain rfl:=len4 _ hr (by rw[show Y.all (gIn p q)=false from te hy g2];simp);refine DQ.acallM (hc:=hI2) (hR:=fun _ _=>trivial) (k:=?_)
    iterate 2 (first|refine Da ?_|refine Dc ?_)
    refine DQ.anil (k:=?_);intro sx _
    repeat (first|refine Tw ?_|(refine Tm ?_;intro _)|exact Tz)
    done
   | true =>
    rw[g2] at hI2;refine DQ.acallM (hc:=hI2) (hR:=fun _ _=>trivial) (k:=?_)
    iterate 2 (first|refine Da ?_|refine Dc ?_)
    refine DQ.anil (k:=?_);intro sx _
    repeat (first|refine WO.does (zh rfl rfl hadd2) ?_|refine Ta ?_|(refine Tm ?_;intro _)|refine Tc ?_|exact Tz)
    exact WX.metI (i+1) (hs:=⟨⟨by omega,fun j hj=>by
     by_cases e:j=i
     ·subst e;exact⟨fun a ha=>by rw[hx] at ha;cases ha;exact g1,fun a ha=>by rw[hy] at ha;cases ha;exact g2⟩
     ·exact h0 j (by omega)⟩,by show N.length - (i+1)<N.length - i;omega⟩)
 ·have hi2:i=N.length:=by omega
  have hVall:V.all (gIn p q)=true:=qh (P:=gIn p q) (fun j hj x hx=>(h0 j (by omega)).1 x hx);have hYall:Y.all (gIn p q)=true:=qh (P:=gIn p q) (fun j hj x hx=>(h0 j (by omega)).2 x hx);rw[decide_eq_true e2,decide_eq_true e3,decide_eq_true e4,hVall,hYall] at hr;clear h0 len4;rw[if_pos (by rfl)] at hr
  repeat (first|refine Tw ?_|(refine Tm ?_;intro _)|exact Tz)
  refine WC.dF rfl (by omega) ?_;have hZ:cF p V:=⟨hV,fun z hz=>yZ (List.all_eq_true.1 hVall z hz)⟩;obtain⟨c,hc⟩ : ∃ c:Nat,f+sec=(c:Int):=⟨(f+sec).toNat,by omega⟩;have hcN:c≤N.length:=bu e0 hc;have hadd:IntKind.i64.wrap (f+sec)=(c:Int):=by rw[hc];exact i64_in (by omega) (by omega)
  have hRC:=dQ p q g h V V.length cV c bV oV rfl (by omega) (by omega) (by omega) (by omega) (by omega) hq hp (yB hgm).1 hZ;rw[show duB p q N.length (f+sec).toNat V=duB p q V.length c V by rw[e2,hc];rfl] at hr;generalize duB p q V.length c V=b at hr hRC
  repeat (first|refine WO.does (zh rfl rfl hadd) ?_|refine Ta ?_|(refine Tm ?_;intro _)|refine Tc ?_|exact Tz)
  refine WO.calls (fs:=[]) (cs:=[]) hRC rfl rfl rfl (fun w1 hm=>hVs.mod hm.mod (by simp)) (fun v N1 hv=>?_);obtain⟨e,rfl,he,rfl⟩:=hv
  try dsimp only[List.cons_append,List.nil_append]
  cases b with
  | false =>
   obtain rfl:(12:Int)=r:=by simpa using hr
   by_cases he0:e=0
   ·repeat (first|refine WO.does (vk rfl rfl he0) ?_|refine Ta ?_|(refine Tm ?_;intro _)|refine Tc ?_|exact Tz)
    done
   ·repeat (first|refine WO.does (vY rfl rfl he0) ?_|refine Ta ?_|(refine Tm ?_;intro _)|refine Tc ?_|exact Tz)
    done
  | true =>
  obtain rfl:=he rfl;rw[if_pos rfl] at hr
  repeat (first|refine WO.does (vk rfl rfl rfl) ?_|refine Ta ?_|(refine Tm ?_;intro _)|refine Tc ?_|exact Tz)
  refine WC.loopI (σ:=Nat) (fun i=>i≤N.length∧∀ j,j<i→pfB p q g N V Y Pr j=true) (fun i=>[(2,pt gS),(3,pt gD),(5,.int .i64 (N.length:Int)),(6,pt gg),(10,.int .i64 (i:Int))]) (fun _=>[⟨gg,26,zR p q g h⟩,⟨gD,35,dlC ep d (.slice (some ⟨bV,oV,none⟩) V.length cV) (.slice (some ⟨bY,oY,none⟩) Y.length cY) (.slice (some ⟨bP,oP,none⟩) Pr.length cP) sC sS⟩,⟨gS,29,stC p q g h f sec (.slice (some ⟨bN,oN,none⟩) N.length cN)⟩]) (fun i=>N.length - i) 0 (fun i hi=>?_) ⟨Nat.zero_le _,fun j hj=>absurd hj (Nat.not_lt_zero _)⟩
  try dsimp only at hi ⊢
  obtain⟨hi,h0⟩:=hi
  by_cases hlt:i<N.length
  ·obtain⟨x,hx⟩ : ∃ y,V[i]?=some y:=⟨_,List.getElem?_eq_getElem (by omega)⟩;obtain⟨y,hy⟩ : ∃ z,Y[i]?=some z:=⟨_,List.getElem?_eq_getElem (by omega)⟩;obtain⟨k,hk⟩ : ∃ z,N[i]?=some z:=⟨_,List.getElem?_eq_getElem (by omega)⟩;obtain⟨pr,hpr⟩ : ∃ z,Pr[i]?=some z:=⟨_,List.getElem?_eq_getElem (by omega)⟩;have hcV:cut (V.flatMap zc) (oV+i*4 - oV) 4=zc x:=by rw[Nat.add_sub_cancel_left];exact zx zy hx
   have hcY:cut (Y.flatMap zc) (oY+i*4 - oY) 4=zc y:=by rw[Nat.add_sub_cancel_left];exact zx zy hy
   have hcP:cut (Pr.flatMap pfC) (oP+i*8 - oP) 8=pfC pr:=by rw[Nat.add_sub_cancel_left];exact zx vu hpr
   have hcNn:cut (N.flatMap vm) (oN+i*8+4 - oN) 4=zc k.2:=by
    rw[Nat.add_assoc,Nat.add_sub_cancel_left,nu yo hk (by decide)];rfl
   have hadd2:IntKind.i64.wrap ((i:Int)+1)=((i+1:Nat):Int):=zl (by omega) (by omega) (by omega);have hC:=eC p q g h adJ g x k.2 y pr.1 pr.2 hp hq hg (hV _ (List.mem_of_getElem? hx)) (hN _ (List.mem_of_getElem? hk)).2 (hY _ (List.mem_of_getElem? hy)) (hPr _ (List.mem_of_getElem? hpr)).1 (hPr _ (List.mem_of_getElem? hpr)).2 (by decide);have hb:ckB p q (zN adJ) g x k.2 y pr.1 pr.2=pfB p q g N V Y Pr i:=by unfold pfB;rw[hx,hy,hk,hpr];rfl
   rw[hb] at hC
   repeat (first|refine Tw ?_|(refine Tm ?_;intro _)|exact Tz)
   refine WC.dT rfl (by omega) ?_
   repeat (first|refine Tw ?_|(refine Tm ?_;intro _)|exact Tz)
   refine WC.adraw 26 (k:=?_)
   iterate 6 (first|refine Da ?_|refine Dc ?_)
   refine DQ.does (fun s _=>za (o':=oV+i*4) rfl rfl (by omega) rfl) Dp.const ?_;refine DQ.does (fun s _=>zk (vs:=zc x) (hs:=hVs) (hle:=Nat.le_add_right _ _) (hc:=hcV)) Dp.const ?_
   iterate 3 (first|refine Da ?_|refine Dc ?_)
   refine DQ.does (fun s _=>za (o':=oN+i*8) rfl rfl (by omega) rfl) Dp.const ?_
   iterate 1 (first|refine Da ?_|refine Dc ?_)
   refine DQ.does (fun s _=>zk (vs:=zc k.2) (hs:=hNs) (hle:=by omega) (hc:=hcNn)) Dp.const ?_
   iterate 3 (first|refine Da ?_|refine Dc ?_)
   refine DQ.does (fun s _=>za (o':=oY+i*4) rfl rfl (by omega) rfl) Dp.const ?_;refine DQ.does (fun s _=>zk (vs:=zc y) (hs:=hYs) (hle:=Nat.le_add_right _ _) (hc:=hcY)) Dp.const ?_
   iterate 3 (first|refine Da ?_|refine Dc ?_)
   refine DQ.does (fun s _=>za (o':=oP+i*8) rfl rfl (by omega) rfl) Dp.const ?_;refine DQ.does (fun s _=>zk (vs:=pfC pr) (hs:=hPs) (hle:=Nat.le_add_right _ _) (hc:=hcP)) Dp.const ?_;cases hr2:pfB p q g N V Y Pr i with
   | true =>
    rw[hr2] at hC;refine DQ.acallM (hc:=hC) (hR:=fun _ _=>trivial) (k:=?_)
    iterate 1 (first|refine Da ?_|refine Dc ?_)
    refine DQ.anil (k:=?_);intro sx _
    repeat (first|refine WO.does (zh rfl rfl hadd2) ?_|refine Ta ?_|(refine Tm ?_;intro _)|refine Tc ?_|exact Tz)
    exact WX.metI (i+1) (hs:=⟨⟨by omega,fun j hj=>by
     by_cases e:j=i
     ·subst e;exact hr2
     ·exact h0 j (by omega)⟩,by show N.length - (i+1)<N.length - i;omega⟩)
   | false =>
    rw[hr2] at hC;rw[show cD p q g N V Y Pr=false from nN (by omega) hr2] at hr;obtain rfl:(11:Int)=r:=by simpa using hr
    refine DQ.acallM (hc:=hC) (hR:=fun _ _=>trivial) (k:=?_)
    iterate 1 (first|refine Da ?_|refine Dc ?_)
    refine DQ.anil (k:=?_);intro sx _
    repeat (first|refine Tw ?_|(refine Tm ?_;intro _)|exact Tz)
    done
  ·have hi2:i=N.length:=by omega
   have hall:cD p q g N V Y Pr=true:=by
    unfold cD;rw[List.all_eq_true];exact fun j hj=>h0 j (by have:=List.mem_range.1 hj;omega)
   rw[hall,if_pos rfl] at hr;obtain⟨hd1,hdn⟩:=oh e1;obtain⟨k,hk⟩ : ∃ z,N[d - 1]?=some z:=⟨_,List.getElem?_eq_getElem (by omega)⟩;rw[hk] at hr;have hHl:(v7 ep d V Y Pr).length=32:=uv _ _;have hHb:∀ b∈v7 ep d V Y Pr,b<256:=pS _ _;have hH:=mL ep d sC sS (some ⟨bV,oV,none⟩) (some ⟨bY,oY,none⟩) (some ⟨bP,oP,none⟩) cV cY cP V Y Pr hep hd (by omega) (by omega) (by omega);have hSg:=f9 p q g h k.1 sC sS (v7 ep d V Y Pr) hp hq hg (hN _ (List.mem_of_getElem? hk)).1 hsC hsS hHb hHl hgm;rw[show (some k).getD (0,0)=k from rfl] at hr;generalize v7 ep d V Y Pr=H at *;generalize qf p q g k.1 sC sS H=b at *;have hsub:IntKind.u8.wrap ((d:Int) - 1)=((d - 1:Nat):Int):=by simp[IntKind.wrap,IntKind.signed,IntKind.bits];omega
   have hcx:cut (N.flatMap vm) (oN+(d - 1)*8 - oN) 4=zc k.1:=by
    rw[Nat.add_sub_cancel_left];have:=nu (f:=vm) (m:=4) (o:=0) yo hk (by decide);rw[Nat.add_zero] at this;rw[this];rfl
   repeat (first|refine Tw ?_|(refine Tm ?_;intro _)|exact Tz)
   refine WC.dF rfl (by omega) ?_
   repeat (first|refine Tw ?_|(refine Tm ?_;intro _)|exact Tz)
   refine WC.adraw 15 (k:=?_)
   iterate 5 (first|refine Da ?_|refine Dc ?_)
   refine DQ.does (fun s _=>zA rfl rfl hsub) Dp.const ?_;refine DQ.does (fun s _=>za (o':=oN+(d - 1)*8) rfl rfl (by omega) rfl) Dp.const ?_
   iterate 1 (first|refine Da ?_|refine Dc ?_)
   refine DQ.does (fun s _=>zk (vs:=zc k.1) (hs:=hNs) (hle:=Nat.le_add_right _ _) (hc:=hcx)) Dp.const ?_
   iterate 1 (first|refine Da ?_|refine Dc ?_)
   refine DQ.acallM (hc:=hH) (hR:=fun w1 hm=>⟨hwV.mod hm.mod,hwY.mod hm.mod,hwP.mod hm.mod⟩) (k:=?_)
   iterate 1 (first|refine Da ?_|refine Dc ?_)
   refine DQ.does (fun s _=>zz (vs:=yO sC sS)) Dp.const ?_;refine DQ.acallM (hc:=hSg) (hR:=fun _ _=>trivial) (k:=?_)
   iterate 1 (first|refine Da ?_|refine Dc ?_)
   refine DQ.anil (k:=?_);intro sx _;cases b with
   | true =>
    obtain rfl:(0:Int)=r:=by simpa using hr
    repeat (first|refine Tw ?_|(refine Tm ?_;intro _)|exact Tz)
    done
   | false =>
    obtain rfl:(10:Int)=r:=by simpa using hr
    repeat (first|refine Tw ?_|(refine Tm ?_;intro _)|exact Tz)
    done
end
end Sx
end
end Go.Proofs.YtbbppkkhidkjpaaGreatDoor
