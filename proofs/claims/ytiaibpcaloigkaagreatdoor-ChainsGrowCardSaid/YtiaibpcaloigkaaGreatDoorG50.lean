/- Part 50 of the proof. -/
import Derived.Test.YtiaibpcaloigkaaGreatDoorG47
set_option linter.unusedSimpArgs false
set_option linter.unusedVariables false
set_option maxHeartbeats 8000000
namespace Go.Proofs.YtiaibpcaloigkaaGreatDoor
section
open Go Go.RowKit Go.BigFrame
namespace Sx
attribute [local irreducible] DQ WC WO WT WX yN ddH gnH hOf voH vtS wd
theorem bM {p q g a F m:Nat} {ks:LP} {ep n:Nat} {PP:List Rr} {W:List ((Dd × Dk) × Nw)} (kW:tv p q g a F m ks ep PP n W) {x:Sw} (hx:x∈W.map (swW ep)):x.P.length=F+m:=by
 obtain⟨z,hz,rfl⟩:=List.mem_map.1 hx;have h1:z.2.xs∈W.map (fun x=>x.2.xs):=List.mem_map.2 ⟨z,hz,rfl⟩;rw[kW.p] at h1;obtain⟨i,_,hi⟩:=List.mem_map.1 h1;show z.2.xs.length=_;rw[← hi,uF]
section
variable (p q g a F m:Nat) (ks:LP) (ep:Nat) (ah:LN) (seed v n Qm:Nat) (HL:List (List Nat)) (W:List ((Dd × Dk) × Nw)) (gh ch gv cv go co gl cl gs cs:Nat)
theorem cF (hHl:HL.length=n) (hWl:W.length=n) {w:World} (h:∀ e∈⟨gl,51,(W.map Prod.fst).flatMap (ddC ep)++mkz (cl - n) dzC⟩::⟨gs,53,(W.map (swW ep)).flatMap swC++mkz (cs - n) swZ⟩::⟨gh,70,HL.flatMap byC++mkz (ch - n) hzC⟩::⟨gv,140,(vtL p q g ks ep v (hOf (zN uW) HL) Qm).flatMap vtC++mkz (cv - Qm) vtZ⟩::⟨go,70,(vaL p q (exN p g a) m ep HL n (fun i=>dqL q (frP seed ep i) (F+m))).flatMap byC++mkz (co - m) hzC⟩::mdB W,e.ok w) :
  EvR ep (some ⟨gl,0,none⟩) cl (W.map Prod.fst) none 0 [] (some ⟨gs,0,none⟩) cs (W.map (swW ep)) w∧RdF byC (AQ gh n ch) HL w∧RdF vtC (AQ gv Qm cv) (vtL p q g ks ep v (hOf (zN uW) HL) Qm) w∧RdF byC (AQ go m m) (vaL p q (exN p g a) m ep HL n (fun i=>dqL q (frP seed ep i) (F+m))) w:=by
 have hm:Mr w [] (⟨gl,51,(W.map Prod.fst).flatMap (ddC ep)++mkz (cl - n) dzC⟩::⟨gs,53,(W.map (swW ep)).flatMap swC++mkz (cs - n) swZ⟩::⟨gh,70,HL.flatMap byC++mkz (ch - n) hzC⟩::⟨gv,140,(vtL p q g ks ep v (hOf (zN uW) HL) Qm).flatMap vtC++mkz (cv - Qm) vtZ⟩::⟨go,70,(vaL p q (exN p g a) m ep HL n (fun i=>dqL q (frP seed ep i) (F+m))).flatMap byC++mkz (co - m) hzC⟩::mdB W) w:=⟨.refl _ _,h⟩;exact⟨⟨RdF.ownO (Hs.sg hm) (by rw[List.length_map,hWl]),fun y hy=>jj (fun e he=>hm.ok e (by repeat (first|exact he|apply List.mem_cons_of_mem))) y hy,RdF.nilV,RdF.ownO (Hs.sg hm) (by rw[List.length_map,hWl]),fun x hx=>by
  obtain⟨z,hz,rfl⟩:=List.mem_map.1 hx;exact iA (fun e he=>hm.ok e (by repeat (first|exact he|apply List.mem_cons_of_mem))) z.2 (List.mem_map.2 ⟨z,hz,rfl⟩)⟩,RdF.ownO (Hs.sg hm) hHl,RdF.ownO (Hs.sg hm) (uP ..),RdF.ownO (Hs.sg hm) (uZ ..)⟩
variable (P gK cK gc cc:Nat) (X:List Wh) (A:List Ent)
theorem cJ (HdR:World→Prop) (hcs:sc p q g a (F:Int) (m:Int) ks) (hp:p<ze) (hq:q<ze) (hg:g<ze) (hep:ep<18446744073709551616) (hal:ah.length=32) (hab:∀ b∈ah,b<256) (hv:v<1000) (h3F:3*F+1≤ks.length) (hn:ks.length - F=n) (hQm:(ks.length+F) / 2+1=Qm)
  (kW:tv p q g a F m ks ep (frR seed ep) n W) (hHL:(W.map fun x=>ddH ep x.1.1)=HL) (hn16:X.length<16) (hepX:ep=X.length+1) (hcc:0<X.length→X.length≤cc∧cc<9223372036854775808) (hX:∀ x∈X,x.ah.length=32)
  (hHd:Fn Tryz.prog 18 [pt P] HdR (Is (.agg (byC ah).toArray)))
  (hHA:∀ w,(∀ e∈chE p q g (exN p g a) (F:Int) (m:Int) (csN p g a ks) P gK cK gc cc X++A,e.ok w)→HdR w)
  (hA:∀ e∈⟨gl,51,(W.map Prod.fst).flatMap (ddC ep)++mkz (cl - n) dzC⟩::⟨gs,53,(W.map (swW ep)).flatMap swC++mkz (cs - n) swZ⟩::⟨gh,70,HL.flatMap byC++mkz (ch - n) hzC⟩::⟨gv,140,(vtL p q g ks ep v (hOf (zN uW) HL) Qm).flatMap vtC++mkz (cv - Qm) vtZ⟩::⟨go,70,(vaL p q (exN p g a) m ep HL n (fun i=>dqL q (frP seed ep i) (F+m))).flatMap byC++mkz (co - m) hzC⟩::mdB W,e∈A) (h0:0 ∉ (chE p q g (exN p g a) (F:Int) (m:Int) (csN p g a ks) P gK cK gc cc X++A).map Ent.g) :
  FnL Tryz.prog 19 [pt P,.agg (bkC ep ah ep (AQ gh n ch) (AQ gv Qm cv) (AQ go m m)).toArray,evV (AQ gl n cl) (.slice none 0 0) (AQ gs n cs)] (chE p q g (exN p g a) (F:Int) (m:Int) (csN p g a ks) P gK cK gc cc X++A) uY
   (fun u L=>∃ T',L=T'++A∧u=.int .i64 0∧∃ gl' cl' y,T'=chE p q g (exN p g a) (F:Int) (m:Int) (csN p g a ks) P gK cK gl' cl' (X++[y])∧WhI y∧WhD y ep ah HL (vtL p q g ks ep v (hOf (zN uW) HL) Qm) (vaL p q (exN p g a) m ep HL n (fun i=>dqL q (frP seed ep i) (F+m))) (W.map Prod.fst) (W.map (swW ep))∧X.length+1≤cl'∧cl' < 9223372036854775808):=by
 have hNl2:=yW p g a ks;have hk7:=hcs.len;obtain⟨s1,s7,_,s0,s2,s5,s8,_⟩:=zS hcs.set;have hWl:=kW.len;have hTl:(W.map Prod.fst).length=n:=by rw[List.length_map,hWl]
 have hSl:(W.map (swW ep)).length=n:=by rw[List.length_map,hWl]
 have hHl:HL.length=n:=by rw[← hHL,List.length_map,hWl]
 have hE:=rD hcs hp hq kW Om;have hVt:=jW hcs hq (ep:=ep) (v:=v) (n:=Qm) (S:=hOf (zN uW) HL) hep hv (zI _ _) (yX _ _) Om;have hCk:=afz p q g a F m ks (some ⟨gK,0,none⟩) cK ep ah seed v n Qm HL W gh ch gv cv go gl cl gs cs hcs hp hq hg hep hal hab hv h3F hn hQm kW hHL;have hVl:(vtL p q g ks ep v (hOf (zN uW) HL) Qm).length=Qm:=uP ..;have hOl:(vaL p q (exN p g a) m ep HL n (fun i=>dqL q (frP seed ep i) (F+m))).length=m:=uZ ..
 have h:=nZ p q g (exN p g a) (F:Int) (m:Int) (csN p g a ks) P gK cK gc cc X A ep ah (some ⟨gh,0,none⟩) (some ⟨gv,0,none⟩) (some ⟨go,0,none⟩) (some ⟨gl,0,none⟩) (some ⟨gs,0,none⟩) ch cv m cl cs HL (vtL p q g ks ep v (hOf (zN uW) HL) Qm) (vaL p q (exN p g a) m ep HL n (fun i=>dqL q (frP seed ep i) (F+m))) (W.map Prod.fst) (W.map (swW ep)) HdR _ ah hal hal hn16 hepX hcc hX hHd (by rw[hHl,hVl,hOl,hTl,hSl,hNl2];exact hCk)
  Om (fun x hx=>by
   rw[← hHL] at hx;obtain⟨z,_,rfl⟩:=List.mem_map.1 hx;exact vh _ _) Om (fun x hx=>(hVt.ok x hx).l) Om (fun x hx=>(qW x hx).1) Om (fun y hy=>by
   obtain⟨j,hj⟩:=List.getElem?_of_mem hy;exact (hE.wy j y hj).fit) Om (fun x hx=>by
   have:=bM kW hx;omega) (fun w hw he=>by
   have h1:=cF p q g a F m ks ep seed v n Qm HL W gh ch gv cv go co gl cl gs cs hHl hWl (w:=w) (fun e h=>he e (List.mem_append_right _ (hA e h)));have h2:=hHA w he;have hm:Mr w [] (chE p q g (exN p g a) (F:Int) (m:Int) (csN p g a ks) P gK cK gc cc X++A) w:=⟨.refl _ _,he⟩;have h3:RdF ya (AQ gK ks.length cK) (csN p g a ks) w:=by
    have:=Ent.ok.seg (he ⟨gK,105,(csN p g a ks).flatMap ya++mkz (cK - (csN p g a ks).length) (vC 0 0)⟩ (List.mem_append_left _ (List.mem_cons_of_mem _ (List.mem_cons_self ..)))) 0;rw[List.drop_zero] at this;exact RdF.ownO this hNl2
   rw[hHl,hVl,hOl];exact⟨h2,⟨h3,h1.1,h1.2.1,h1.2.2.1,h1.2.2.2,hw⟩,h1.2.1,h1.2.2.1,h1.2.2.2,h1.1⟩) h0
 rw[hHl,hVl,hOl,hTl,hSl] at h;exact h
end
end Sx
end
section
open Go Go.RowKit Go.BigFrame
namespace Sx
attribute [local irreducible] DQ WC WO WT WX blH yN ddH gnH hOf voH vtS wd
structure WhG (x:Wh):Prop where
 al:x.ah.length=32
 ab:∀ b∈x.ah,b<256
 H:∀ X∈x.HL,X.length=32
 Hb:∀ X∈x.HL,∀ b∈X,b<256
 hl:0<x.HL.length∧x.HL.length≤64
 O:∀ X∈x.OL,X.length=32
 Ob:∀ X∈x.OL,∀ b∈X,b<256
 ol:0<x.OL.length∧x.OL.length≤64
theorem agI {cs:LV} {o n k j:Nat} (h:j+k≤n):cut cs (o+j) k=cut (cut cs o n) j k:=by
 unfold cut;rw[List.drop_take,List.drop_drop,List.take_take,Nat.min_eq_left Om]
section
variable {X:List Wh} {i:Nat} {y:Wh} {r:LV}
theorem fP (hX:∀ x∈X,x.ah.length=32) (hy:X[i]?=some y):cut (X.flatMap whV++r) (i*40) 40=whV y:=ul (fun x hx=>y9 (hX x hx)) hy
theorem ahf (hX:∀ x∈X,x.ah.length=32) (hy:X[i]?=some y):cut (X.flatMap whV++r) (i*40) 37=bkC y.ep y.ah y.ep (AQ y.gh y.HL.length y.HL.length) (AQ y.gv y.VL.length y.VL.length) (AQ y.go y.OL.length y.OL.length):=by
 have h:=agI (cs:=X.flatMap whV++r) (o:=i*40) (n:=40) (k:=37) (j:=0) Dtt;rw[Nat.add_zero,fP hX hy] at h;rw[h];have h1:y.ah.length=32:=hX y (List.mem_of_getElem? hy);unfold whV cut;rw[← aeD,List.drop_zero,← ut (ep:=y.ep) (cep:=y.ep) (sD:=AQ y.gh y.HL.length y.HL.length) (sV:=AQ y.gv y.VL.length y.VL.length) (sO:=AQ y.go y.OL.length y.OL.length) h1,List.take_left]
theorem agD (hX:∀ x∈X,x.ah.length=32) (hy:X[i]?=some y):(X.flatMap whV++r)[i*40+36]?=some (AQ y.go y.OL.length y.OL.length):=vb (fP hX hy) (su (hX y (List.mem_of_getElem? hy)) 3)
end
section
variable (p q g h:Nat) (f sec:Int) (N:LP) (P gN cN gl cl:Nat) (X:List Wh)
structure ChR (w:World):Prop where
 c:Seg w P 0 (chC p q g h f sec (AQ gN N.length cN) (agV gl cl X.length X.length))
 N:RdF ya (AQ gN N.length cN) N w
 r:0<X.length→Seg w gl 0 (X.flatMap whV++mkz (cl - X.length) whZ)
 H:∀ y∈X,RdF byC (AQ y.gh y.HL.length y.HL.length) y.HL w
 O:∀ y∈X,RdF byC (AQ y.go y.OL.length y.OL.length) y.OL w
theorem ChR.of {w:World} (hm:∀ e∈chE p q g h f sec N P gN cN gl cl X,e.ok w):ChR p q g h f sec N P gN cN gl cl X w:=by
 have sg:∀ b t cs,(⟨b,t,cs⟩ : Ent)∈chE p q g h f sec N P gN cN gl cl X→Seg w b 0 cs:=fun b t cs he=>by
  have:=Ent.ok.seg (hm _ he) 0;rwa [List.drop_zero] at this
 refine⟨sg _ _ _ (List.mem_cons_self ..),RdF.ownO (sg _ _ _ (List.mem_cons_of_mem _ (List.mem_cons_self ..))) rfl,fun h0=>sg gl 144 _ ?_,fun y hy=>RdF.ownO (r:=mkz y.rh hzC) (sg y.gh 70 _ ?_) rfl,fun y hy=>RdF.ownO (r:=mkz y.ro hzC) (sg y.go 70 _ ?_) rfl⟩
 ·unfold chE;rw[yr h0];exact List.mem_cons_of_mem _ (List.mem_cons_of_mem _ (List.mem_append_left _ (List.mem_cons_self ..)))
 ·refine List.mem_cons_of_mem _ (List.mem_cons_of_mem _ (List.mem_append_right _ (List.mem_flatMap.2 ⟨y,hy,?_⟩)));exact List.mem_cons_self ..
 ·refine List.mem_cons_of_mem _ (List.mem_cons_of_mem _ (List.mem_append_right _ (List.mem_flatMap.2 ⟨y,hy,?_⟩)));exact List.mem_cons_of_mem _ (List.mem_cons_of_mem _ (List.mem_cons_self ..))
variable (hX:∀ x∈X,WhG x) (h16:X.length≤16)
include hX h16
theorem ei (y:Wh) (n:Nat) (hn:X.length=n+1) (hy:X[n]?=some y) :
  Fn Tryz.prog 18 [pt P] (ChR p q g h f sec N P gN cN gl cl X) (Is (.agg (byC (blH y.ep y.ah y.HL y.OL)).toArray)):=by
 have hT:=vx p q g h f sec (AQ gN N.length cN) (agV gl cl X.length X.length) P;have hyG:=hX y (List.mem_of_getElem? hy);have hB:=jb y.ep y.ah (some ⟨y.gh,0,none⟩) (some ⟨y.go,0,none⟩) y.HL.length y.OL.length y.HL y.OL hyG.al hyG.H hyG.O hyG.hl hyG.ol (Nat.le_refl _) (Nat.le_refl _) (AQ y.gv y.VL.length y.VL.length) rfl hyG.ab hyG.Hb hyG.Ob;have hbl:(byC (blH y.ep y.ah y.HL y.OL)).length=32:=by rw[zd];unfold blH;exact zI _ _
 generalize blH y.ep y.ah y.HL y.OL=HS at *;have hcut:=ahf (r:=mkz (cl - X.length) whZ) (fun x hx=>(hX x hx).al) hy;have hbk:=ut (ep:=y.ep) (cep:=y.ep) (sD:=AQ y.gh y.HL.length y.HL.length) (sV:=AQ y.gv y.VL.length y.VL.length) (sO:=AQ y.go y.OL.length y.OL.length) hyG.al;have hsub:IntKind.i64.wrap ((X.length:Int) - 1)=((n:Nat):Int):=zl Om Om Om;refine Fn.enter Tryz.func18 rfl rfl rfl ?_;intro w hw;have hwc:=hw.c;have hwr:=hw.r Om;have hV:agV gl cl X.length X.length=AQ gl X.length cl:=by rw[hn];rfl
 rw[hV] at hT hwc
 repeat (first|refine WO.does (zm (hs:=hwc) (hc:=rfl)) ?_|refine WO.does (zR rfl rfl Om) ?_|refine Tj ?_|intro _|refine WO.acallR (hc:=hT) (hR:=fun wx hm=>hwc.mod hm.mod Sm) (k:=?_)|refine Tc ?_|exact Tz)
 refine WC.adraw 14 (k:=?_)
 iterate 14 (first|refine DQ.does (fun s _=>zm (hs:=hwc) (hc:=rfl)) Dp.const ?_|refine DQ.does (fun s _=>zG rfl rfl hsub) Dp.const ?_|refine DQ.does (fun s _=>zb (o':=n*40) rfl rfl Om (Nat.zero_add _)) Dp.const ?_|refine DQ.does (fun s _=>zn (vs:=bkC y.ep y.ah y.ep (AQ y.gh y.HL.length y.HL.length) (AQ y.gv y.VL.length y.VL.length) (AQ y.go y.OL.length y.OL.length)) (hs:=hwr) (hle:=Nat.zero_le _) (hc:=hcut) (hl:=hbk)) Dp.const ?_|refine DQ.acallR (hc:=hB) (hR:=fun wx hm=>⟨(hw.H y (List.mem_of_getElem? hy)).mod hm.mod,(hw.O y (List.mem_of_getElem? hy)).mod hm.mod⟩) (k:=?_)|refine Da ?_|refine Dc ?_)
 refine DQ.anil (k:=?_);intro sx _
 repeat (first|refine Tj ?_|intro _|refine WO.stores (zo (vs:=byC HS) (cs':=byC HS) (hl:=hbl) (h1:=zM HS) (hc:=zC (by rw[hbl];rfl)) (hle:=by rw[hbl];rfl)) ?_|refine Tc ?_|exact Tz)
 exact WX.aret1 (hr:=vF (vs:=byC HS) (hc:=zt hbl) (hl:=hbl)) (hp:=rfl)
theorem bd (m:Nat) (hsec:sec=(m:Int)) (hm0:0<m) (hm10:m≤100) (y:Wh) (rd i j:Nat) (HS:LN) (hij:rd=i*m+j) (hj:j<m) (hy:X[i]?=some y) (hol:y.OL.length=m) (hHS:y.OL[j]?=some HS) :
  Fn Tryz.prog 23 [pt P,.int .u64 (rd:Int)] (ChR p q g h f sec N P gN cN gl cl X) (Is (.tuple #[.agg (byC HS).toArray,.int .i64 0])):=by
 subst hsec;have hT:=vx p q g h f (m:Int) (AQ gN N.length cN) (agV gl cl X.length X.length) P;have hyG:=hX y (List.mem_of_getElem? hy);have hbl:(byC HS).length=32:=by rw[zd];exact hyG.O _ (List.mem_of_getElem? hHS)
 have hi:i<X.length:=by
  rcases Nat.lt_or_ge i X.length with h|h
  ·exact h
  ·rw[List.getElem?_eq_none h] at hy;cases hy
 obtain⟨n,hn⟩ : ∃ n,X.length=n+1:=⟨X.length - 1,by omega⟩;have him:i*m≤16*m:=Nat.mul_le_mul_right m Om;have him2:i*m+m≤16*m:=by
  have:=Nat.mul_le_mul_right m (show i+1≤16 by omega);rwa [Nat.add_mul,Nat.one_mul] at this
 have hcv:IntKind.u64.wrap (m:Int)=((m:Nat):Int):=u64_in Om Om;have hmul:IntKind.u64.wrap (16*(m:Int))=((16*m:Nat):Int):=by
  rw[show (16:Int)*(m:Int)=((16*m:Nat):Int) from by omega];exact u64_in Om Om
 have hq0:(rd:Int).tdiv (m:Int)=((i:Nat):Int):=by
  rw[hij];show (((i*m+j) / m:Nat):Int)=_;rw[Nat.mul_comm,Nat.mul_add_div hm0,Nat.div_eq_of_lt hj,Nat.add_zero]
 have hq:IntKind.u64.wrap ((rd:Int).tdiv (m:Int))=((i:Nat):Int):=by rw[hq0];exact u64_in Om Om
 have hr:(rd:Int).tmod (m:Int)=((j:Nat):Int):=by
  rw[hij];show (((i*m+j)%m:Nat):Int)=_;rw[Nat.mul_comm,Nat.mul_add_mod,Nat.mod_eq_of_lt hj]
 have hcl:IntKind.u64.wrap (X.length:Int)=((X.length:Nat):Int):=u64_in Om Om;have hmz:(m:Int)≠0:=by omega
 have hout:=agD (r:=mkz (cl - X.length) whZ) (fun x hx=>(hX x hx).al) hy;refine Fn.enter Tryz.func23 rfl rfl rfl ?_;intro w hw;have hwc:=hw.c;have hwr:=hw.r Om;have hV:agV gl cl X.length X.length=AQ gl X.length cl:=by rw[hn];rfl
 rw[hV] at hT hwc;obtain⟨b,o,hbo,_,hs⟩:=id (hw.O y (List.mem_of_getElem? hy)) |>.get hHS
 cases hbo;have hcj:cut (y.OL.flatMap byC) (0+j*32 - 0) 32=byC HS:=by
  rw[Nat.zero_add,Nat.sub_zero];exact ve (k:=32) (fun x hx=>by rw[zd,hyG.O x hx]) hHS
 repeat (first|refine WO.does (zm (hs:=hwc) (hc:=rfl)) ?_|refine WO.does (zr rfl hcv) ?_|refine WO.does (ym rfl rfl hmul) ?_|refine WO.does (zY rfl rfl Om) ?_|refine Tj ?_|intro _|refine WO.acallR (hc:=hT) (hR:=fun wx hm=>hwc.mod hm.mod Sm) (k:=?_)|refine Tc ?_|exact Tz)
 refine WC.adraw 11 (k:=?_)
 iterate 11 (first|refine DQ.does (fun s _=>ud rfl rfl hmz hq) Dp.const ?_|refine DQ.does (fun s _=>zm (hs:=hwc) (hc:=rfl)) Dp.const ?_|refine DQ.does (fun s _=>zr rfl hcl) Dp.const ?_|refine DQ.does (fun s _=>zY rfl rfl Om) Dp.const ?_|refine Da ?_|refine Dc ?_)
 refine DQ.anil (k:=?_);intro sx _
 repeat (first|refine Tk ?_|intro _|exact Tz)
 refine WC.adraw 16 (k:=?_)
 iterate 16 (first|refine DQ.does (fun s _=>ud rfl rfl hmz hq) Dp.const ?_|refine DQ.does (fun s _=>yK rfl rfl hmz hr) Dp.const ?_|refine DQ.does (fun s _=>zm (hs:=hwc) (hc:=rfl)) Dp.const ?_|refine DQ.does (fun s _=>zb (o':=i*40) rfl rfl hi (Nat.zero_add _)) Dp.const ?_|refine DQ.does (fun s _=>zm (hs:=hwr) (hc:=hout)) Dp.const ?_|refine DQ.does (fun s _=>zb (o':=0+j*32) rfl rfl Om rfl) Dp.const ?_|refine DQ.does (fun s _=>zn (vs:=byC HS) (hs:=hs) (hle:=Nat.zero_le _) (hc:=hcj) (hl:=hbl)) Dp.const ?_|refine Da ?_|refine Dc ?_)
 refine DQ.anil (k:=?_);intro sx _
 repeat (first|refine Tj ?_|intro _|refine WO.stores (zo (vs:=byC HS) (cs':=byC HS) (hl:=hbl) (h1:=zM HS) (hc:=zC (by rw[hbl];rfl)) (hle:=by rw[hbl];rfl)) ?_|refine Tc ?_|exact Tz)
 exact WX.ret2 rfl (zW (vs:=byC HS) rfl Hs.a (zt hbl) hbl) (zK rfl) [] Lle.nil rfl
omit hX in
theorem fb (m:Nat) (hsec:sec=(m:Int)) (hm0:0<m) (hm10:m≤100) (rd i j:Nat) (hij:rd=i*m+j) (hj:j<m) (hi:X.length≤i) (hi16:i<16) :
  Fn Tryz.prog 23 [pt P,.int .u64 (rd:Int)] (fun w=>Seg w P 0 (chC p q g h f sec (AQ gN N.length cN) (agV gl cl X.length X.length))) (Is (.tuple #[.agg (byC (List.replicate 32 0)).toArray,.int .i64 13])):=by
 subst hsec;have hT:=vx p q g h f (m:Int) (AQ gN N.length cN) (agV gl cl X.length X.length) P;obtain⟨V,hV,pp,c',hVs⟩ : ∃ V,agV gl cl X.length X.length=V∧∃ pp c',V=.slice pp X.length c':=⟨_,rfl,by cases X.length<;>exact⟨_,_,rfl⟩⟩;rw[hV] at hT ⊢;clear hV;subst hVs;have him:i*m+m≤16*m:=by
  have:=Nat.mul_le_mul_right m (show i+1≤16 by omega);rwa [Nat.add_mul,Nat.one_mul] at this
 have hcv:IntKind.u64.wrap (m:Int)=((m:Nat):Int):=u64_in Om Om;have hmul:IntKind.u64.wrap (16*(m:Int))=((16*m:Nat):Int):=by
  rw[show (16:Int)*(m:Int)=((16*m:Nat):Int) from by omega];exact u64_in Om Om
 have hq0:(rd:Int).tdiv (m:Int)=((i:Nat):Int):=by
  rw[hij];show (((i*m+j) / m:Nat):Int)=_;rw[Nat.mul_comm,Nat.mul_add_div hm0,Nat.div_eq_of_lt hj,Nat.add_zero]
 have hq:IntKind.u64.wrap ((rd:Int).tdiv (m:Int))=((i:Nat):Int):=by rw[hq0];exact u64_in Om Om
 have hcl:IntKind.u64.wrap (X.length:Int)=((X.length:Nat):Int):=u64_in Om Om;have hmz:(m:Int)≠0:=by omega
 have hbl:(byC (List.replicate 32 0)).length=32:=rfl;refine Fn.enter Tryz.func23 rfl rfl rfl ?_;intro w hw
 repeat (first|refine WO.does (zm (hs:=hw) (hc:=rfl)) ?_|refine WO.does (zr rfl hcv) ?_|refine WO.does (ym rfl rfl hmul) ?_|refine WO.does (zY rfl rfl Om) ?_|refine Tj ?_|intro _|refine WO.acallR (hc:=hT) (hR:=fun wx hm=>hw.mod hm.mod Sm) (k:=?_)|refine Tc ?_|exact Tz)
 refine WC.adraw 11 (k:=?_)
 iterate 11 (first|refine DQ.does (fun s _=>ud rfl rfl hmz hq) Dp.const ?_|refine DQ.does (fun s _=>zm (hs:=hw) (hc:=rfl)) Dp.const ?_|refine DQ.does (fun s _=>zr rfl hcl) Dp.const ?_|refine DQ.does (fun s _=>yP rfl rfl Om) Dp.const ?_|refine Da ?_|refine Dc ?_)
 refine DQ.anil (k:=?_);intro sx _
 repeat (first|refine WO.does (zz (cs:=byC (List.replicate 32 0)) rfl rfl Kr) ?_|refine WO.stores (zo (vs:=byC (List.replicate 32 0)) (cs':=byC (List.replicate 32 0)) (hl:=hbl) (h1:=zM _) (hc:=zC (by rw[hbl];rfl)) (hle:=by rw[hbl];rfl)) ?_|refine Tj ?_|intro _|refine Tc ?_|exact Tz)
 done
end
structure Dt where
 ep:Nat
 ah:List Nat
 HL:List (List Nat)
 OL:List (List Nat)
def afc (y:Wh):Dt:=⟨y.ep,y.ah,y.HL,y.OL⟩
structure ChI (X:List Wh) (D:List Dt):Prop where
 dat:X.map afc=D
 ok:∀ x∈X,WhG x
theorem ChI.len {X:List Wh} {D:List Dt} (h:ChI X D):X.length=D.length:=by rw[← h.dat,List.length_map]
theorem ChI.get {X:List Wh} {D:List Dt} (h:ChI X D) {i:Nat} {d:Dt} (hd:D[i]?=some d):∃ y,X[i]?=some y∧afc y=d:=by
 rw[← h.dat,List.getElem?_map] at hd;cases hx:X[i]? with
 | none=>rw[hx] at hd;cases hd
 | some y=>rw[hx] at hd;exact⟨y,rfl,Option.some.inj hd⟩
theorem ChI.nil:ChI [] []:=⟨rfl,fun _ h=>by cases h⟩
theorem ChI.snoc {X:List Wh} {D:List Dt} (h:ChI X D) {y:Wh} {d:Dt} (hy:afc y=d) (hg:WhG y):ChI (X++[y]) (D++[d]) :=
 ⟨by rw[List.map_append,h.dat,← hy];rfl,fun x hx=>by
  rcases List.mem_append.1 hx with hx|hx
  ·exact h.ok x hx
  ·rw[List.mem_singleton.1 hx];exact hg⟩
section
variable (p q g h F m:Nat) (N:LP) (P gN cN gl cl:Nat) (X:List Wh) (D:List Dt)
def hdD:List Nat:=match D.getLast? with
 | none=>gnH p q g h F m N
 | some d=>blH d.ep d.ah d.HL d.OL
theorem nl (hI:ChI X D) (h16:D.length≤16) (hp:p<ze) (hq:q<ze) (hg:g<ze) (hh:h<ze) (hN:zZ N) (hNl:N.length≤100) (hs:y5 p q g h (F:Int) (m:Int) N=true) :
  Fn Tryz.prog 18 [pt P] (ChR p q g h (F:Int) (m:Int) N P gN cN gl cl X) (Is (.agg (byC (hdD p q g h F m N D)).toArray)):=by
 have hl:=hI.len
 rcases List.eq_nil_or_concat D with hD|⟨D0,d,hD⟩
 ·subst hD;obtain rfl:X=[]:=List.length_eq_zero_iff.1 hl;exact Fn.weak (ae p q g h F m N P gN cN hp hq hg hh hN hNl hs) (fun w hw=>⟨hw.c,hw.N⟩) (fun _ _ hv=>hv)
 ·rw[List.concat_eq_append] at hD;have hd:D[D0.length]?=some d:=by rw[hD];simp
  obtain⟨y,hy,hyd⟩:=hI.get hd;have h1:=ei p q g h (F:Int) (m:Int) N P gN cN gl cl X hI.ok Om y D0.length (by rw[hl,hD];simp) hy;have h2:hdD p q g h F m N D=blH y.ep y.ah y.HL y.OL:=by
   unfold hdD;rw[hD,List.getLast?_append];simp only[List.getLast?_singleton,Option.some_or];rw[← hyd];rfl
  rw[h2];exact h1
theorem acv (hI:ChI X D) (h16:D.length≤16) (hm0:0<m) (hm10:m≤100) (d:Dt) (rd i j:Nat) (HS:LN) (hij:rd=i*m+j) (hj:j<m) (hd:D[i]?=some d) (hol:d.OL.length=m) (hHS:d.OL[j]?=some HS) :
  Fn Tryz.prog 23 [pt P,.int .u64 (rd:Int)] (ChR p q g h (F:Int) (m:Int) N P gN cN gl cl X) (Is (.tuple #[.agg (byC HS).toArray,.int .i64 0])):=by
 obtain⟨y,hy,rfl⟩:=hI.get hd;exact bd p q g h (F:Int) (m:Int) N P gN cN gl cl X hI.ok (by have:=hI.len;omega) m rfl hm0 hm10 y rd i j HS hij hj hy hol hHS
end
structure Mb where
 ep:Nat
 ah:List Nat
 seed:Nat
 HL:List (List Nat)
 W:List ((Dd × Dk) × Nw)
 gh:Nat
 ch:Nat
 gv:Nat
 cv:Nat
 go:Nat
 co:Nat
 gl:Nat
 cl:Nat
 gs:Nat
 cs:Nat
section
variable (p q g a F m:Nat) (ks:LP) (n Qm v:Nat)
abbrev mbV (b:Mb):List Value:=bkC b.ep b.ah b.ep (AQ b.gh n b.ch) (AQ b.gv Qm b.cv) (AQ b.go m m)
abbrev mbE (b:Mb):List Value:=[AQ b.gl n b.cl,.slice none 0 0,AQ b.gs n b.cs]
def mbO (b:Mb):List (List Nat):=vaL p q (exN p g a) m b.ep b.HL n (fun i=>dqL q (frP b.seed b.ep i) (F+m))
def mbM (b:Mb):List Ent:=⟨b.gl,51,(b.W.map Prod.fst).flatMap (ddC b.ep)++mkz (b.cl - n) dzC⟩::⟨b.gs,53,(b.W.map (swW b.ep)).flatMap swC++mkz (b.cs - n) swZ⟩::⟨b.gh,70,b.HL.flatMap byC++mkz (b.ch - n) hzC⟩::⟨b.gv,140,(vtL p q g ks b.ep v (hOf (zN uW) b.HL) Qm).flatMap vtC++mkz (b.cv - Qm) vtZ⟩::⟨b.go,70,(mbO p q g a F m n b).flatMap byC++mkz (b.co - m) hzC⟩::mdB b.W
structure MbG (b:Mb):Prop where
 k:tv p q g a F m ks b.ep (frR b.seed b.ep) n b.W
 H:(b.W.map fun x=>ddH b.ep x.1.1)=b.HL
 al:b.ah.length=32
 ab:∀ x∈b.ah,x<256
def nC (b:Mb):Dt:=⟨b.ep,b.ah,b.HL,mbO p q g a F m n b⟩
variable (P gK cK gc cc:Nat) (X:List Wh) (D:List Dt) (A:List Ent)
end
structure WhS (x:Wh):Prop where
 v:(0<x.VL.length∧x.VL.length≤1000)∧∀ v∈x.VL,v.S.length=32
 t:(0<x.T.length∧x.T.length≤1000)∧∀ y∈x.T,fG y.1
 s:(0<x.S.length∧x.S.length≤1000)∧∀ y∈x.S,0<y.P.length∧y.P.length≤1000
structure BkR (y:Wh) (w:World):Prop where
 H:RdF byC (AQ y.gh y.HL.length y.HL.length) y.HL w
 V:RdF vtC (AQ y.gv y.VL.length y.VL.length) y.VL w
 O:RdF byC (AQ y.go y.OL.length y.OL.length) y.OL w
 E:EvR y.ep (some ⟨y.gl,0,none⟩) y.T.length y.T none 0 [] (some ⟨y.gs,0,none⟩) y.S.length y.S w
theorem BkR.of {y:Wh} {w:World} (hI:WhI y) (he:∀ e∈whE y,e.ok w):BkR y w:=by
  have sg:∀ b t cs,(⟨b,t,cs⟩ : Ent)∈whE y→Seg w b 0 cs:=fun b t cs h=>by
    have:=Ent.ok.seg (he _ h) 0;rwa [List.drop_zero] at this
  have hM : ∀ e ∈ y.M, e.ok w := fun e h => he e (by unfold whE; iterate 5 apply List.mem_cons_of_mem
                                                     exact h)
  refine⟨RdF.ownO (r:=mkz y.rh hzC) (sg y.gh 70 _ ?_) rfl,RdF.ownO (r:=mkz y.rv vtZ) (sg y.gv 140 _ ?_) rfl,RdF.ownO (r:=mkz y.ro hzC) (sg y.go 70 _ ?_) rfl,
    ⟨RdF.ownO (r:=mkz y.rl dzC) (sg y.gl 51 _ ?_) rfl,hI.d w hM,RdF.nilV,RdF.ownO (r:=mkz y.rs swZ) (sg y.gs 53 _ ?_) rfl,hI.s w hM⟩⟩
  all_goals (unfold whE;repeat (first|exact List.mem_cons_self ..|apply List.mem_cons_of_mem))
abbrev whB (z:Wh):List Value:=bkC z.ep z.ah z.ep (AQ z.gh z.HL.length z.HL.length) (AQ z.gv z.VL.length z.VL.length) (AQ z.go z.OL.length z.OL.length)
abbrev whF (z:Wh):List Value:=[AQ z.gl z.T.length z.T.length,.slice none 0 0,AQ z.gs z.S.length z.S.length]
theorem fZ (z:Wh):whV z=whB z++whF z:=aeD.symm
def CpP (y:Wh):Value→List Ent→Prop:=fun v L=>∃ z:Wh,WhI z∧WhD z y.ep y.ah y.HL y.VL y.OL y.T y.S∧v=.tuple #[.agg (whB z).toArray,.agg (whF z).toArray,.int .i64 0]∧L=whE z
section
variable (p q g h:Nat) (f sec:Int) (N:LP) (P gN cN gl cl:Nat) (X:List Wh)
theorem e9 (hX:∀ x∈X,WhG x) (h16:X.length≤16) (y:Wh) (i:Nat) (hy:X[i]?=some y) (hyS:WhS y) :
  Fn Tryz.prog 22 [pt P,.int .u64 ((i+1:Nat):Int)] (fun w=>ChR p q g h f sec N P gN cN gl cl X w∧BkR y w) (CpP y):=by
 have hi:i<X.length:=by
  rcases Nat.lt_or_ge i X.length with h|h
  ·exact h
  ·rw[List.getElem?_eq_none h] at hy;cases hy
 obtain⟨n,hn⟩ : ∃ n,X.length=n+1:=⟨X.length - 1,by omega⟩;have hT:=vx p q g h f sec (AQ gN N.length cN) (agV gl cl X.length X.length) P;have hyG:=hX y (List.mem_of_getElem? hy);have hW:=dI y.ep y.ah y.ep (some ⟨y.gh,0,none⟩) (some ⟨y.gv,0,none⟩) (some ⟨y.go,0,none⟩) (some ⟨y.gl,0,none⟩) (some ⟨y.gs,0,none⟩) y.HL.length y.VL.length y.OL.length y.T.length y.S.length y.HL y.VL y.OL y.T y.S hyG.al ⟨hyG.hl.1,by have:=hyG.hl.2;omega⟩ hyG.H hyS.v.1 hyS.v.2 ⟨hyG.ol.1,by have:=hyG.ol.2;omega⟩ hyG.O hyS.t.1 hyS.t.2 hyS.s.1 hyS.s.2;have hcut:=fP (r:=mkz (cl - X.length) whZ) (fun x hx=>(hX x hx).al) hy;have hvl:(whV y).length=40:=y9 hyG.al;have hcl:IntKind.u64.wrap (X.length:Int)=((X.length:Nat):Int):=u64_in Om Om;have hsub:IntKind.u64.wrap (((i+1:Nat):Int) - 1)=((i:Nat):Int):=by
  rw[show ((i+1:Nat):Int) - 1=((i:Nat):Int) from by omega];exact u64_in Om Om
 refine Fn.enter Tryz.func22 rfl rfl rfl ?_;intro w hw;obtain⟨hw,wy⟩:=hw;have hwc:=hw.c;have hwr:=hw.r Om;have hV:agV gl cl X.length X.length=AQ gl X.length cl:=by rw[hn];rfl
 rw[hV] at hT hwc
 repeat (first|refine WO.does (zm (hs:=hwc) (hc:=rfl)) ?_|refine WO.does (zr rfl hcl) ?_|refine WO.does (z7 rfl rfl Om) ?_|refine WO.does (yn rfl rfl Om) ?_|refine WO.does (zG rfl rfl hsub) ?_|refine WO.does (zb (o':=i*40) rfl rfl hi (Nat.zero_add _)) ?_|refine WO.does (zn (vs:=whV y) (hs:=hwr) (hle:=Nat.zero_le _) (hc:=hcut) (hl:=hvl)) ?_|refine Tj ?_|intro _|refine WO.acallR (hc:=hT) (hR:=fun wx hm=>hwc.mod hm.mod Sm) (k:=?_)|refine Tc ?_|exact Tz)
 rename_i gB gE;refine WO.callsL (hc:=Fn.toL hW) (hp:=.nil) (hR:=fun wx hm=>⟨wy.H.mod hm.mod,wy.V.mod hm.mod,wy.O.mod hm.mod,wy.E.mod hm.mod⟩) (k:=fun v1 N1 hv=>?_);obtain⟨gh,rh,gv,rv,go,ro,gD,rl,gs,rs,T',S',M,rfl,rfl,hT',hS',hSc,hM,hM2⟩:=hv;have hTl:T'.length=y.T.length:=by have:=congrArg List.length hT';simpa using this
 have hSl:S'.length=y.S.length:=by have:=congrArg List.length hS';simpa using this
 obtain⟨z,hz⟩ : ∃ z:Wh,z=⟨y.ep,y.ah,y.HL,y.VL,y.OL,T',S',gh,rh,gv,rv,go,ro,gD,rl,gs,rs,M⟩:=⟨_,rfl⟩;have hzV:whC y.ep y.ah y.ep (AQ gh y.HL.length y.HL.length) (AQ gv y.VL.length y.VL.length) (AQ go y.OL.length y.OL.length) (AQ gD y.T.length y.T.length) (.slice none 0 0) (AQ gs y.S.length y.S.length)=whV z:=by
  rw[hz];unfold whV;rw[hTl,hSl]
 have hzE:(⟨gh,70,y.HL.flatMap byC++mkz rh hzC⟩::⟨gv,140,y.VL.flatMap vtC++mkz rv vtZ⟩::⟨go,70,y.OL.flatMap byC++mkz ro hzC⟩::⟨gD,51,T'.flatMap (ddC y.ep)++mkz rl dzC⟩::⟨gs,53,S'.flatMap swC++mkz rs swZ⟩::M:List Ent)=whE z:=by rw[hz];rfl
 have hzI:WhI z:=by rw[hz];exact⟨hyG.al,hM,hM2⟩
 have hzD:WhD z y.ep y.ah y.HL y.VL y.OL y.T y.S:=by rw[hz];exact⟨rfl,rfl,rfl,rfl,rfl,hT',hS'⟩
 rw[hzV,hzE];clear hzV hzE hz;have hzl:(whV z).length=40:=y9 hzI.al;have hz1:(whV z).all Value.oneCell'=true:=dD rfl rfl rfl rfl rfl rfl;have hbl:(whB z).length=37:=ut hzI.al;have hb1:(whB z).all Value.oneCell'=true:=rQ rfl rfl rfl;have hcB:cut (whV z) 0 37=whB z:=by
  rw[fZ];unfold cut;rw[List.drop_zero,← hbl,List.take_left]
 have hcF:cut (whV z) 37 3=whF z:=by
  rw[fZ];unfold cut;rw[← hbl,List.drop_left];rfl
 refine WO.swap ?_;simp only[List.cons_append,List.nil_append]
 repeat (first|refine WO.stores (zo (vs:=whV z) (cs':=whV z) (hl:=hzl) (h1:=hz1) (hc:=zC (by rw[hzl];rfl)) (hle:=by rw[hzl];rfl)) ?_|refine Tj ?_|intro _|refine Tc ?_|exact Tz)
 rename_i gW;refine WC.mainV [4,5,6] [(0,Ap gW),(1,.agg (whB z).toArray),(2,.pointer (some ⟨gW,37,none⟩)),(3,.agg (whF z).toArray)] Dtt ?_;refine WT.with [⟨gW,144,whV z⟩] Kr (Tlv.auto (Tlv.d rfl (zw (vs:=whB z) (hc:=hcB) (hl:=hbl)) (Tlv.auto (Tlv.d rfl (zw (vs:=whF z) (hc:=hcF)) Tlv.nil)))) (fun hc hT=>?_)
 refine WT.one (m:=4) rfl hc hT ?_;refine WO.stores (zo (vs:=whB z) (cs':=whB z) (hl:=hbl) (h1:=hb1) (hc:=zC (by rw[hbl];rfl)) (hle:=by rw[hbl];rfl)) ?_;refine WO.nil (WX.wt [] ?_);refine WT.one (m:=5) rfl hc hT ?_;refine WO.stores (zo (vs:=whF z) (cs':=whF z)) ?_;refine WO.nil (WX.wt [] ?_);refine WT.one (m:=6) rfl hc hT ?_;refine Tw ?_;refine WO.nil (WX.wt [(6,.int .i64 0)] ?_);refine WT.fin [6,5,4] 10 hc rfl Kr ?_;clear hc hT
 repeat (first|refine Tk ?_|intro _|exact Tz)
 exact WX.ret3 rfl (zW (vs:=whB z) rfl Hs.a (zt hbl) hbl) (zW (vs:=whF z) rfl Hs.a rfl rfl) (zK rfl) (whE z) (Lle.skip (Lle.skip (Lle.skip Lle.same))) ⟨z,hzI,hzD,rfl,rfl⟩
end
section
variable {S S' : List Sw}
theorem cX (h:S'.map (fun y=>(y.e,y.d,y.P))=S.map (fun y=>(y.e,y.d,y.P))) {x:Sw} (hx:x∈S'):∃ y∈S,y.e=x.e∧y.d=x.d∧y.P=x.P:=by
 have h1:(x.e,x.d,x.P)∈S'.map (fun y=>(y.e,y.d,y.P)):=List.mem_map.2 ⟨x,hx,rfl⟩;rw[h] at h1;obtain⟨y,hy,e⟩:=List.mem_map.1 h1;exact⟨y,hy,congrArg Prod.fst e,congrArg (fun z=>z.2.1) e,congrArg (fun z=>z.2.2) e⟩
theorem agc (h:S'.map (fun y=>(y.e,y.d,y.P))=S.map (fun y=>(y.e,y.d,y.P))) (ep d:Nat):S'.any (swB ep d)=S.any (swB ep d):=by
 have e:∀ l:List Sw,l.any (swB ep d)=(l.map (fun y=>(y.e,y.d,y.P))).any (fun z=>decide (z.1=ep) && decide (z.2.1=d)):=fun l=>by
  rw[List.any_map];rfl
 rw[e,e,h]
variable {p q g h F m:Nat} {N:LP} {ep:Nat} {y:Dd} {l:LN}
theorem WyH.copy (hS:S'.map (fun y=>(y.e,y.d,y.P))=S.map (fun y=>(y.e,y.d,y.P))) (hW:WyH p q g h F m N ep [] S y l):WyH p q g h F m N ep [] S' y l :=
 ⟨hW.fit,hW.num,hW.d,hW.ck,hW.ll,fun x hx hs=>by
  obtain⟨z,hz,e1,e2,e3⟩:=cX hS hx;have h1:=hW.sh z hz (by unfold swB at hs ⊢;rw[e1,e2];exact hs);rw[e3] at h1;exact h1,hW.op⟩
theorem adh (hS:S'.map (fun y=>(y.e,y.d,y.P))=S.map (fun y=>(y.e,y.d,y.P))):wB p q g h F m N ep [] S' y=wB p q g h F m N ep [] S y:=by
 unfold wB;rw[agc hS]
end
section
variable (p q g a F m:Nat) (ks:LP) (n Qm v:Nat)
abbrev MbC (b:Mb) (z:Wh):Prop:=WhD z b.ep b.ah b.HL (vtL p q g ks b.ep v (hOf (zN uW) b.HL) Qm) (mbO p q g a F m n b) (b.W.map Prod.fst) (b.W.map (swW b.ep))
variable (P gK cK gc cc:Nat) (X:List Wh) (D:List Dt) (A:List Ent)
theorem sG (b:Mb) (z:Wh) (hb:MbG p q g a F m ks n b) (hzD:MbC p q g a F m ks n Qm v b z) (hep:b.ep<18446744073709551616) (hcs:sc p q g a (F:Int) (m:Int) ks) (hp:p<ze) (hq:q<ze) (hv:v<1000) (h3F:3*F+1≤ks.length) (hn:ks.length - F=n) (hQm:(ks.length+F) / 2+1=Qm) (hzI:WhI z):WhS z∧WhG z:=by
 have hk7:=hcs.len;obtain⟨s1,s7,_,s0,s2,s5,s8,_⟩:=zS hcs.set;have hWl:=hb.k.len;have hE:=rD hcs hp hq hb.k Om;have hVt:=jW hcs hq (ep:=b.ep) (v:=v) (n:=Qm) (S:=hOf (zN uW) b.HL) hep hv (zI _ _) (yX _ _) Om;have hTl:z.T.length=n:=by have:=congrArg List.length hzD.T;simpa [hWl] using this
 have hSl:z.S.length=n:=by have:=congrArg List.length hzD.S;simpa [hWl] using this
 have hVl:(vtL p q g ks b.ep v (hOf (zN uW) b.HL) Qm).length=Qm:=uP ..;have hHl:b.HL.length=n:=by rw[← hb.H,List.length_map,hWl]
 have hOl:(mbO p q g a F m n b).length=m:=uZ ..;have hO:∀ X∈mbO p q g a F m n b,X.length=32∧∀ b∈X,b<256:=qW;have hH:∀ X∈b.HL,X.length=32∧∀ b∈X,b<256:=fun X hX=>by
  rw[← hb.H] at hX;obtain⟨z,_,rfl⟩:=List.mem_map.1 hX;exact⟨vh _ _,qR _ _⟩
 refine⟨⟨⟨by rw[hzD.V];omega,by rw[hzD.V];exact fun x hx=>(hVt.ok x hx).l⟩,⟨by omega,fun y hy=>?_⟩,⟨by omega,fun x hx=>?_⟩⟩,⟨hzI.al,by rw[hzD.ah];exact hb.ab,by rw[hzD.H];exact fun X hX=>(hH X hX).1,by rw[hzD.H];exact fun X hX=>(hH X hX).2,by rw[hzD.H];omega,by rw[hzD.O];exact fun X hX=>(hO X hX).1,by rw[hzD.O];exact fun X hX=>(hO X hX).2,by rw[hzD.O];omega⟩⟩
 ·have h1:y.1∈z.T.map Prod.fst:=List.mem_map.2 ⟨y,hy,rfl⟩;rw[hzD.T] at h1;obtain⟨y',hy',e⟩:=List.mem_map.1 h1;obtain⟨j,hj⟩:=List.getElem?_of_mem hy';rw[← e];exact (hE.wy j y' hj).fit
 ·obtain⟨x',hx',_,_,e3⟩:=cX hzD.S hx;have:=bM hb.k hx';rw[← e3];omega
theorem adg (b:Mb) (z:Wh) (hb:MbG p q g a F m ks n b) (hzI:WhI z) (hzD:MbC p q g a F m ks n Qm v b z) (hI:ChI X D) (hah:b.ah=hdD p q g (exN p g a) F m (csN p g a ks) D) (hepD:b.ep=D.length+1) (h16:D.length<16) (hcc:0<D.length→D.length≤cc∧cc<9223372036854775808)
  (hcs:sc p q g a (F:Int) (m:Int) ks) (hp:p<ze) (hq:q<ze) (hg:g<ze) (hv:v<1000) (h3F:3*F+1≤ks.length) (hn:ks.length - F=n) (hQm:(ks.length+F) / 2+1=Qm)
  (hA:∀ e∈whE z,e∈A) (h0:0 ∉ (chE p q g (exN p g a) (F:Int) (m:Int) (csN p g a ks) P gK cK gc cc X++A).map Ent.g) :
  FnL Tryz.prog 19 [pt P,.agg (whB z).toArray,.agg (whF z).toArray] (chE p q g (exN p g a) (F:Int) (m:Int) (csN p g a ks) P gK cK gc cc X++A) uY
   (fun u L=>∃ T',L=T'++A∧u=.int .i64 0∧∃ gc' cc' y,T'=chE p q g (exN p g a) (F:Int) (m:Int) (csN p g a ks) P gK cK gc' cc' (X++[y])∧ChI (X++[y]) (D++[nC p q g a F m n b])∧D.length+1≤cc'∧cc' < 9223372036854775808):=by
 have hl:=hI.len;have hNl2:=yW p g a ks;have hk7:=hcs.len;obtain⟨s1,s7,_,s0,s2,s5,s8,_⟩:=zS hcs.set;have hWl:=hb.k.len;have hE:=rD hcs hp hq hb.k Om;have hVt:=jW hcs hq (ep:=b.ep) (v:=v) (n:=Qm) (S:=hOf (zN uW) b.HL) Om hv (zI _ _) (yX _ _) Om;have hTl:z.T.length=n:=by have:=congrArg List.length hzD.T;simpa [hWl] using this
 have hSl:z.S.length=n:=by have:=congrArg List.length hzD.S;simpa [hWl] using this
 have hVl:z.VL.length=Qm:=by rw[hzD.V];exact uP ..
 have hHl:b.HL.length=n:=by rw[← hb.H,List.length_map,hWl]
 obtain⟨hzS,hzG⟩:=sG p q g a F m ks n Qm v b z hb hzD Om hcs hp hq hv h3F hn hQm hzI;have hTg:∀ (i:Nat) (y:Dd × Dk),z.T[i]?=some y→∃ y',(b.W.map Prod.fst)[i]?=some y'∧y'.1=y.1:=fun i y hy=>by
  have h1:(z.T.map Prod.fst)[i]?=some y.1:=by rw[List.getElem?_map,hy];rfl
  rw[hzD.T,List.getElem?_map] at h1;cases h2:(b.W.map Prod.fst)[i]? with
  | none=>rw[h2] at h1;cases h1
  | some y'=>rw[h2] at h1;exact⟨y',rfl,Option.some.inj h1⟩
 have hHL:z.HL=z.T.map fun y=>ddH z.ep y.1:=by
  rw[hzD.H,hzD.ep,← hb.H];have h1:=congrArg (List.map (ddH b.ep)) hzD.T;rw[List.map_map,List.map_map,List.map_map] at h1;exact h1.symm
 have hOk:∀ X∈z.OL,X.length=32∧∀ b∈X,b<256:=by rw[hzD.O];exact qW
 have hOl:z.OL.length=m:=by rw[hzD.O];exact uZ ..
 have hHd:=nl p q g (exN p g a) F m (csN p g a ks) P gK cK gc cc X D hI Om hp hq hg (ub hp) (sL hp) Om hcs.set;rw[← hah] at hHd;have hze:=hzD.ep
 have hCk:=eF p q g (exN p g a) F m (some ⟨gK,0,none⟩) cK (csN p g a ks) z.ep z.ah (some ⟨z.gh,0,none⟩) z.T.length z.HL (some ⟨z.gv,0,none⟩) z.VL.length z.VL (some ⟨z.go,0,none⟩) z.OL.length z.OL (some ⟨z.gl,0,none⟩) z.T.length z.T none 0 (some ⟨z.gs,0,none⟩) z.S.length z.S v 0 (fun i=>dqL q (frP b.seed b.ep i) (F+m)) hp hq hg (ub hp) (sL hp) Om hcs.set Om hzI.al (by rw[hzD.ah];exact hb.ab)
  (by rw[hzD.H,hHl,hTl]) hHL Om Om (fun i y hy=>by
   obtain⟨y',h1,h2⟩:=hTg i y hy;rw[← h2];exact hE.d i y' h1) Om (by rw[hzD.V,hzD.ep,hzD.H];exact hVt) Om Om Dtt Om hOl hOk Om (fun x hx=>by
   obtain⟨x',hx',_,_,e3⟩:=cX hzD.S hx;rw[← e3];exact hE.sn x' hx') (fun i y hy=>by
   obtain⟨y',h1,h2⟩:=hTg i y hy;rw[← h2,hze];exact (hE.wy i y' h1).copy hzD.S) (fun i y hy=>by
   obtain⟨y',h1,h2⟩:=hTg i y hy;rw[← h2,hze,adh hzD.S];exact hE.wb i y' h1)
 rw[show vaL p q (exN p g a) m z.ep z.HL z.T.length (fun i=>dqL q (frP b.seed b.ep i) (F+m))=z.OL from by rw[hzD.O,hzD.ep,hzD.H,hTl];rfl,decide_eq_true rfl] at hCk;have hHz:z.HL.length=z.T.length:=by rw[hzD.H,hHl,hTl]
 have hah2:z.ah=b.ah:=hzD.ah;rw[← hah2] at hHd
 have h:=nZ p q g (exN p g a) (F:Int) (m:Int) (csN p g a ks) P gK cK gc cc X A z.ep z.ah (some ⟨z.gh,0,none⟩) (some ⟨z.gv,0,none⟩) (some ⟨z.go,0,none⟩) (some ⟨z.gl,0,none⟩) (some ⟨z.gs,0,none⟩) z.HL.length z.VL.length z.OL.length z.T.length z.S.length z.HL z.VL z.OL z.T z.S _ _ z.ah hzI.al hzI.al Om Om (by rw[hl];exact hcc) (fun x hx=>(hI.ok x hx).al) hHd (by rw[hHz];exact hCk)
  ⟨hzG.hl.1,by have:=hzG.hl.2;omega⟩ hzG.H hzS.v.1 hzS.v.2 ⟨hzG.ol.1,by have:=hzG.ol.2;omega⟩ hzG.O hzS.t.1 hzS.t.2 hzS.s.1 hzS.s.2 (fun w hw he=>by
   have hB:=BkR.of hzI (w:=w) (fun e h=>he e (List.mem_append_right _ (hA e h)));have hR:=ChR.of _ _ _ _ _ _ _ _ _ _ _ _ _ (fun e h=>he e (List.mem_append_left _ h));have hH':=hB.H;rw[hHz] at hH';exact⟨hR,⟨hR.N,hB.E,hH',hB.V,hB.O,hw⟩,hB.H,hB.V,hB.O,hB.E⟩) h0
 intro w h1 h2 h3;refine (h w h1 h2 h3).mono ?_;rintro e w' ⟨v',N',rfl,hm,T',rfl,rfl,gl',cl',y,rfl,hyI,hyD,h5,h6⟩;have hyC:MbC p q g a F m ks n Qm v b y:=⟨hyD.ep.trans hzD.ep,hyD.ah.trans hzD.ah,hyD.H.trans hzD.H,hyD.V.trans hzD.V,hyD.O.trans hzD.O,hyD.T.trans hzD.T,hyD.S.trans hzD.S⟩;refine⟨_,_,rfl,hm,_,rfl,rfl,gl',cl',y,rfl,hI.snoc ?_ (sG p q g a F m ks n Qm v b y hb hyC Om hcs hp hq hv h3F hn hQm hyI).2,by omega,h6⟩;unfold afc nC;rw[hyC.ep,hyC.ah,hyC.H,hyC.O]
end
theorem Mr.t {w0 w:World} {gs:LN} {L T:List Ent} (hm:Mr w0 gs L w) (h:∀ e∈T,e∈L:=by (intro e he;repeat (first|exact List.mem_append_right _ he|exact List.mem_append_left _ he|exact List.mem_append_left _ (List.mem_append_left _ he)|exact List.mem_append_left _ (List.mem_append_right _ (List.mem_append_right _ he))|apply List.mem_cons_of_mem))):∀ e∈T,e.ok w:=fun e he=>hm.ok e (h e he)
theorem ChR.o {p q g h:Nat} {f sec:Int} {N:LP} {P gN cN gl cl:Nat} {X:List Wh} {w:World} (hm:∀ e∈chE p q g h f sec N P gN cN gl cl X,e.ok w):ChR p q g h f sec N P gN cN gl cl X w:=ChR.of _ _ _ _ _ _ _ _ _ _ _ _ _ hm
section
variable (p q g h:Nat) (f sec:Int) (N:LP) (P gN cN gl cl n:Nat)
theorem fF (m:Nat) (hsec:sec=(m:Int)) (hm10:m≤100) (rd:Nat) (hrd:16*m≤rd) :
  Fn Tryz.prog 23 [pt P,.int .u64 (rd:Int)] (fun w=>Seg w P 0 (chC p q g h f sec (AQ gN N.length cN) (agV gl cl n n))) (Is (.tuple #[.agg (byC (List.replicate 32 0)).toArray,.int .i64 3])):=by
 subst hsec;have hT:=vx p q g h f (m:Int) (AQ gN N.length cN) (agV gl cl n n) P;obtain⟨V,hV,pp,c',hVs⟩ : ∃ V,agV gl cl n n=V∧∃ pp c',V=.slice pp n c':=⟨_,rfl,by cases n<;>exact⟨_,_,rfl⟩⟩;rw[hV] at hT ⊢;clear hV;subst hVs;have hcv:IntKind.u64.wrap (m:Int)=((m:Nat):Int):=u64_in Om Om;have hmul:IntKind.u64.wrap (16*(m:Int))=((16*m:Nat):Int):=by
  rw[show (16:Int)*(m:Int)=((16*m:Nat):Int) from by omega];exact u64_in Om Om
 have hbl:(byC (List.replicate 32 0)).length=32:=rfl;refine Fn.enter Tryz.func23 rfl rfl rfl ?_;intro w hw
 repeat (first|refine WO.does (zm (hs:=hw) (hc:=rfl)) ?_|refine WO.does (zr rfl hcv) ?_|refine WO.does (ym rfl rfl hmul) ?_|refine WO.does (yP rfl rfl Om) ?_|refine WO.does (zz (cs:=byC (List.replicate 32 0)) rfl rfl Kr) ?_|refine WO.stores (zo (vs:=byC (List.replicate 32 0)) (cs':=byC (List.replicate 32 0)) (hl:=hbl) (h1:=zM _) (hc:=zC (by rw[hbl];rfl)) (hle:=by rw[hbl];rfl)) ?_|refine Tj ?_|intro _|refine WO.acallR (hc:=hT) (hR:=fun wx hm=>hw.mod hm.mod Sm) (k:=?_)|refine Tc ?_|exact Tz)
 done
end
theorem abx {e1 e2 s1 s2 s3:Ent} {R C O:List Ent}:(e1::e2::(R++(s1::s2::s3::(C++O)))).Perm (e1::e2::s1::s2::s3::((R++O)++C)):=by
 classical
 rw[List.perm_iff_count];intro x;simp only[List.count_cons,List.count_append,List.count_nil];omega
theorem aaK {f1 f2 e1 e2 s1 s2 s3:Ent} {Z R C O:List Ent}:(f1::f2::(Z++(e1::e2::s1::s2::s3::((R++O)++C)))).Perm (f1::f2::e1::e2::s1::s2::s3::((Z++(R++C))++O)):=by
 classical
 rw[List.perm_iff_count];intro x;simp only[List.count_cons,List.count_append,List.count_nil];omega
theorem aaU {f1 f2 e1 e2 s1 s2 s3 r1 r2 r3 r4 r5:Ent} {Z M C O:List Ent}:(f1::f2::e1::e2::s1::s2::s3::((Z++((r1::r2::r3::r4::r5::M)++C))++O)).Perm ((s1::s2::s3::e2::r5::(C++O))++(f1::f2::e1::r1::r2::r3::r4::(Z++M))):=by
 classical
 rw[List.perm_iff_count];intro x;simp only[List.count_cons,List.count_append,List.count_nil];omega
section
variable (p q g h F m:Nat) (N:LP) (D:List Dt)
theorem jM (d:Dt):hdD p q g h F m N (D++[d])=blH d.ep d.ah d.HL d.OL:=by
 unfold hdD;rw[List.getLast?_append];rfl
end
end Sx
end
end Go.Proofs.YtiaibpcaloigkaaGreatDoor
