/- Part 50 of the proof. -/
import Derived.Test.YtiaibpcaloigkaaGreatDoorF49
import Derived.Test.YtiaibpcaloigkaaGreatDoorF48
set_option linter.unusedSimpArgs false
set_option linter.unusedVariables false
namespace Go.Proofs.YtiaibpcaloigkaaGreatDoor
section
open Go Go.RowKit Go.BigFrame
namespace Sx
attribute [local irreducible] DQ WC WO WT WX yX ddH gnH hOf voH vtS wd
theorem ade {p q g a F m:Nat} {ks:LP} {ep n:Nat} {PP:List Rr} {W:List ((Dd × Dk) × Nw)} (kW:tD p q g a F m ks ep PP n W) {x:Sw} (hx:x∈W.map (swW ep)):x.P.length=F+m:=by
 obtain⟨z,hz,rfl⟩:=List.mem_map.1 hx;have h1:z.2.xs∈W.map (fun x=>x.2.xs):=List.mem_map.2 ⟨z,hz,rfl⟩;rw[kW.p] at h1;obtain⟨i,_,hi⟩:=List.mem_map.1 h1;show z.2.xs.length=_;rw[← hi,uy]
section
variable (p q g a F m:Nat) (ks:LP) (ep:Nat) (ah:LN) (seed v n Qm:Nat) (HL:List (List Nat)) (W:List ((Dd × Dk) × Nw)) (gh ch gv cv go co gl cl gs cs:Nat)
theorem adv (hHl:HL.length=n) (hWl:W.length=n) {w:World} (h:∀ e∈⟨gl,51,(W.map Prod.fst).flatMap (ddC ep)++mkz (cl - n) dzC⟩::⟨gs,53,(W.map (swW ep)).flatMap swC++mkz (cs - n) swZ⟩::⟨gh,70,HL.flatMap byC++mkz (ch - n) hzC⟩::⟨gv,140,(vtL p q g ks ep v (hOf (zO tm) HL) Qm).flatMap vtC++mkz (cv - Qm) vtZ⟩::⟨go,70,(vaL p q (exN p g a) m ep HL n (fun i=>dqL q (frP seed ep i) (F+m))).flatMap byC++mkz (co - m) hzC⟩::mdB W,e.ok w) :
  EvR ep (some ⟨gl,0,none⟩) cl (W.map Prod.fst) none 0 [] (some ⟨gs,0,none⟩) cs (W.map (swW ep)) w∧RdF byC (AQ gh n ch) HL w∧RdF vtC (AQ gv Qm cv) (vtL p q g ks ep v (hOf (zO tm) HL) Qm) w∧RdF byC (AQ go m m) (vaL p q (exN p g a) m ep HL n (fun i=>dqL q (frP seed ep i) (F+m))) w:=by
 have hm:Mr w [] (⟨gl,51,(W.map Prod.fst).flatMap (ddC ep)++mkz (cl - n) dzC⟩::⟨gs,53,(W.map (swW ep)).flatMap swC++mkz (cs - n) swZ⟩::⟨gh,70,HL.flatMap byC++mkz (ch - n) hzC⟩::⟨gv,140,(vtL p q g ks ep v (hOf (zO tm) HL) Qm).flatMap vtC++mkz (cv - Qm) vtZ⟩::⟨go,70,(vaL p q (exN p g a) m ep HL n (fun i=>dqL q (frP seed ep i) (F+m))).flatMap byC++mkz (co - m) hzC⟩::mdB W) w:=⟨.refl _ _,h⟩;exact⟨⟨RdF.ownO (Hs.sg hm) (by rw[List.length_map,hWl]),fun y hy=>jT (fun e he=>hm.ok e (by repeat (first|exact he|apply List.mem_cons_of_mem))) y hy,RdF.nilV,RdF.ownO (Hs.sg hm) (by rw[List.length_map,hWl]),fun x hx=>by
  obtain⟨z,hz,rfl⟩:=List.mem_map.1 hx;exact j8 (fun e he=>hm.ok e (by repeat (first|exact he|apply List.mem_cons_of_mem))) z.2 (List.mem_map.2 ⟨z,hz,rfl⟩)⟩,RdF.ownO (Hs.sg hm) hHl,RdF.ownO (Hs.sg hm) (tv ..),RdF.ownO (Hs.sg hm) (tE ..)⟩
variable (P gK cK gc cc:Nat) (X:List Wh) (A:List Ent)
theorem dh (HdR:World→Prop) (hcs:sQ p q g a (F:Int) (m:Int) ks) (hp:p<ze) (hq:q<ze) (hg:g<ze) (hep:ep<18446744073709551616) (hal:ah.length=32) (hab:∀ b∈ah,b<256) (hv:v<1000) (h3F:3*F+1≤ks.length) (hn:ks.length - F=n) (hQm:(ks.length+F) / 2+1=Qm)
  (kW:tD p q g a F m ks ep (frR seed ep) n W) (hHL:(W.map fun x=>ddH ep x.1.1)=HL) (hn16:X.length<16) (hepX:ep=X.length+1) (hcc:0<X.length→X.length≤cc∧cc<9223372036854775808) (hX:∀ x∈X,x.ah.length=32)
  (hHd:Fn Tryz.prog 18 [pt P] HdR (Is (.agg (byC ah).toArray)))
  (hHA:∀ w,(∀ e∈chE p q g (exN p g a) (F:Int) (m:Int) (csN p g a ks) P gK cK gc cc X++A,e.ok w)→HdR w)
  (hA:∀ e∈⟨gl,51,(W.map Prod.fst).flatMap (ddC ep)++mkz (cl - n) dzC⟩::⟨gs,53,(W.map (swW ep)).flatMap swC++mkz (cs - n) swZ⟩::⟨gh,70,HL.flatMap byC++mkz (ch - n) hzC⟩::⟨gv,140,(vtL p q g ks ep v (hOf (zO tm) HL) Qm).flatMap vtC++mkz (cv - Qm) vtZ⟩::⟨go,70,(vaL p q (exN p g a) m ep HL n (fun i=>dqL q (frP seed ep i) (F+m))).flatMap byC++mkz (co - m) hzC⟩::mdB W,e∈A) (h0:0 ∉ (chE p q g (exN p g a) (F:Int) (m:Int) (csN p g a ks) P gK cK gc cc X++A).map Ent.g) :
  FnL Tryz.prog 19 [pt P,.agg (bkC ep ah ep (AQ gh n ch) (AQ gv Qm cv) (AQ go m m)).toArray,evV (AQ gl n cl) (.slice none 0 0) (AQ gs n cs)] (chE p q g (exN p g a) (F:Int) (m:Int) (csN p g a ks) P gK cK gc cc X++A) tc
   (fun u L=>∃ T',L=T'++A∧u=.int .i64 0∧∃ gl' cl' y,T'=chE p q g (exN p g a) (F:Int) (m:Int) (csN p g a ks) P gK cK gl' cl' (X++[y])∧WhI y∧WhD y ep ah HL (vtL p q g ks ep v (hOf (zO tm) HL) Qm) (vaL p q (exN p g a) m ep HL n (fun i=>dqL q (frP seed ep i) (F+m))) (W.map Prod.fst) (W.map (swW ep))∧X.length+1≤cl'∧cl' < 9223372036854775808):=by
 have hNl2:=yU p g a ks;have hk7:=hcs.len;obtain⟨s1,s7,_,s0,s2,s5,s8,_⟩:=zS hcs.set;have hWl:=kW.len;have hTl:(W.map Prod.fst).length=n:=by rw[List.length_map,hWl]
 have hSl:(W.map (swW ep)).length=n:=by rw[List.length_map,hWl]
 have hHl:HL.length=n:=by rw[← hHL,List.length_map,hWl]
 have hE:=kO hcs hp hq kW Om;have hVt:=aci hcs hq (ep:=ep) (v:=v) (n:=Qm) (S:=hOf (zO tm) HL) hep hv (zJ _ _) (vx _ _) Om;have hCk:=afT p q g a F m ks (some ⟨gK,0,none⟩) cK ep ah seed v n Qm HL W gh ch gv cv go gl cl gs cs hcs hp hq hg hep hal hab hv h3F hn hQm kW hHL;have hVl:(vtL p q g ks ep v (hOf (zO tm) HL) Qm).length=Qm:=tv ..;have hOl:(vaL p q (exN p g a) m ep HL n (fun i=>dqL q (frP seed ep i) (F+m))).length=m:=tE ..
 have h:=ej p q g (exN p g a) (F:Int) (m:Int) (csN p g a ks) P gK cK gc cc X A ep ah (some ⟨gh,0,none⟩) (some ⟨gv,0,none⟩) (some ⟨go,0,none⟩) (some ⟨gl,0,none⟩) (some ⟨gs,0,none⟩) ch cv m cl cs HL (vtL p q g ks ep v (hOf (zO tm) HL) Qm) (vaL p q (exN p g a) m ep HL n (fun i=>dqL q (frP seed ep i) (F+m))) (W.map Prod.fst) (W.map (swW ep)) HdR _ ah hal hal hn16 hepX hcc hX hHd (by rw[hHl,hVl,hOl,hTl,hSl,hNl2];exact hCk)
  Om (fun x hx=>by
   rw[← hHL] at hx;obtain⟨z,_,rfl⟩:=List.mem_map.1 hx;exact vA _ _) Om (fun x hx=>(hVt.ok x hx).l) Om (fun x hx=>(mj x hx).1) Om (fun y hy=>by
   obtain⟨j,hj⟩:=List.getElem?_of_mem hy;exact (hE.wy j y hj).fit) Om (fun x hx=>by
   have:=ade kW hx;omega) (fun w hw he=>by
   have h1:=adv p q g a F m ks ep seed v n Qm HL W gh ch gv cv go co gl cl gs cs hHl hWl (w:=w) (fun e h=>he e (List.mem_append_right _ (hA e h)));have h2:=hHA w he;have hm:Mr w [] (chE p q g (exN p g a) (F:Int) (m:Int) (csN p g a ks) P gK cK gc cc X++A) w:=⟨.refl _ _,he⟩;have h3:RdF z8 (AQ gK ks.length cK) (csN p g a ks) w:=by
    have:=Ent.ok.seg (he ⟨gK,105,(csN p g a ks).flatMap z8++mkz (cK - (csN p g a ks).length) (vE 0 0)⟩ (List.mem_append_left _ (List.mem_cons_of_mem _ (List.mem_cons_self ..)))) 0;rw[List.drop_zero] at this;exact RdF.ownO this hNl2
   rw[hHl,hVl,hOl];exact⟨h2,⟨h3,h1.1,h1.2.1,h1.2.2.1,h1.2.2.2,hw⟩,h1.2.1,h1.2.2.1,h1.2.2.2,h1.1⟩) h0
 rw[hHl,hVl,hOl,hTl,hSl] at h;exact h
end
end Sx
end
section
open Go Go.RowKit Go.BigFrame
namespace Sx
attribute [local irreducible] DQ WC WO WT WX blH yX ddH gnH hOf voH vtS wd
structure WhG (x:Wh):Prop where
 al:x.ah.length=32
 ab:∀ b∈x.ah,b<256
 H:∀ X∈x.HL,X.length=32
 Hb:∀ X∈x.HL,∀ b∈X,b<256
 hl:0<x.HL.length∧x.HL.length≤64
 O:∀ X∈x.OL,X.length=32
 Ob:∀ X∈x.OL,∀ b∈X,b<256
 ol:0<x.OL.length∧x.OL.length≤64
theorem age {cs:LV} {o n k j:Nat} (h:j+k≤n):cut cs (o+j) k=cut (cut cs o n) j k:=by
 unfold cut;rw[List.drop_take,List.drop_drop,List.take_take,Nat.min_eq_left Om]
section
variable {X:List Wh} {i:Nat} {y:Wh} {r:LV}
theorem acB (hX:∀ x∈X,x.ah.length=32) (hy:X[i]?=some y):cut (X.flatMap whV++r) (i*40) 40=whV y:=yF (fun x hx=>vw (hX x hx)) hy
theorem ag0 (hX:∀ x∈X,x.ah.length=32) (hy:X[i]?=some y):cut (X.flatMap whV++r) (i*40) 37=bkC y.ep y.ah y.ep (AQ y.gh y.HL.length y.HL.length) (AQ y.gv y.VL.length y.VL.length) (AQ y.go y.OL.length y.OL.length):=by
 have h:=age (cs:=X.flatMap whV++r) (o:=i*40) (n:=40) (k:=37) (j:=0) Dtt;rw[Nat.add_zero,acB hX hy] at h;rw[h];have h1:y.ah.length=32:=hX y (List.mem_of_getElem? hy);unfold whV cut;rw[← afZ,List.drop_zero,← y8 (ep:=y.ep) (cep:=y.ep) (sD:=AQ y.gh y.HL.length y.HL.length) (sV:=AQ y.gv y.VL.length y.VL.length) (sO:=AQ y.go y.OL.length y.OL.length) h1,List.take_left]
theorem aff (hX:∀ x∈X,x.ah.length=32) (hy:X[i]?=some y):(X.flatMap whV++r)[i*40+36]?=some (AQ y.go y.OL.length y.OL.length):=vg (acB hX hy) (sF (hX y (List.mem_of_getElem? hy)) 3)
end
section
variable (p q g h:Nat) (f sec:Int) (N:LP) (P gN cN gl cl:Nat) (X:List Wh)
structure ChR (w:World):Prop where
 c:Seg w P 0 (chC p q g h f sec (AQ gN N.length cN) (agV gl cl X.length X.length))
 N:RdF z8 (AQ gN N.length cN) N w
 r:0<X.length→Seg w gl 0 (X.flatMap whV++mkz (cl - X.length) whZ)
 H:∀ y∈X,RdF byC (AQ y.gh y.HL.length y.HL.length) y.HL w
 O:∀ y∈X,RdF byC (AQ y.go y.OL.length y.OL.length) y.OL w
theorem ChR.of {w:World} (hm:∀ e∈chE p q g h f sec N P gN cN gl cl X,e.ok w):ChR p q g h f sec N P gN cN gl cl X w:=by
 have sg:∀ b t cs,(⟨b,t,cs⟩ : Ent)∈chE p q g h f sec N P gN cN gl cl X→Seg w b 0 cs:=fun b t cs he=>by
  have:=Ent.ok.seg (hm _ he) 0;rwa [List.drop_zero] at this
 refine⟨sg _ _ _ (List.mem_cons_self ..),RdF.ownO (sg _ _ _ (List.mem_cons_of_mem _ (List.mem_cons_self ..))) rfl,fun h0=>sg gl 144 _ ?_,fun y hy=>RdF.ownO (r:=mkz y.rh hzC) (sg y.gh 70 _ ?_) rfl,fun y hy=>RdF.ownO (r:=mkz y.ro hzC) (sg y.go 70 _ ?_) rfl⟩
 ·unfold chE;rw[yk h0];exact List.mem_cons_of_mem _ (List.mem_cons_of_mem _ (List.mem_append_left _ (List.mem_cons_self ..)))
 ·refine List.mem_cons_of_mem _ (List.mem_cons_of_mem _ (List.mem_append_right _ (List.mem_flatMap.2 ⟨y,hy,?_⟩)));exact List.mem_cons_self ..
 ·refine List.mem_cons_of_mem _ (List.mem_cons_of_mem _ (List.mem_append_right _ (List.mem_flatMap.2 ⟨y,hy,?_⟩)));exact List.mem_cons_of_mem _ (List.mem_cons_of_mem _ (List.mem_cons_self ..))
variable (hX:∀ x∈X,WhG x) (h16:X.length≤16)
include hX h16
theorem bj (y:Wh) (n:Nat) (hn:X.length=n+1) (hy:X[n]?=some y) :
  Fn Tryz.prog 18 [pt P] (ChR p q g h f sec N P gN cN gl cl X) (Is (.agg (byC (blH y.ep y.ah y.HL y.OL)).toArray)):=by
 have hT:=vQ p q g h f sec (AQ gN N.length cN) (agV gl cl X.length X.length) P;have hyG:=hX y (List.mem_of_getElem? hy);have hB:=abJ y.ep y.ah (some ⟨y.gh,0,none⟩) (some ⟨y.go,0,none⟩) y.HL.length y.OL.length y.HL y.OL hyG.al hyG.H hyG.O hyG.hl hyG.ol (Nat.le_refl _) (Nat.le_refl _) (AQ y.gv y.VL.length y.VL.length) rfl hyG.ab hyG.Hb hyG.Ob;have hbl:(byC (blH y.ep y.ah y.HL y.OL)).length=32:=by rw[zd];unfold blH;exact zJ _ _
 generalize blH y.ep y.ah y.HL y.OL=HS at *;have hcut:=ag0 (r:=mkz (cl - X.length) whZ) (fun x hx=>(hX x hx).al) hy;have hbk:=y8 (ep:=y.ep) (cep:=y.ep) (sD:=AQ y.gh y.HL.length y.HL.length) (sV:=AQ y.gv y.VL.length y.VL.length) (sO:=AQ y.go y.OL.length y.OL.length) hyG.al;have hsub:IntKind.i64.wrap ((X.length:Int) - 1)=((n:Nat):Int):=zl Om Om Om;refine Fn.enter Tryz.func18 rfl rfl rfl ?_;intro w hw;have hwc:=hw.c;have hwr:=hw.r Om;have hV:agV gl cl X.length X.length=AQ gl X.length cl:=by rw[hn];rfl
 rw[hV] at hT hwc
 repeat (first|refine WO.does (zm (hs:=hwc) (hc:=rfl)) ?_|refine WO.does (zR rfl rfl Om) ?_|refine Tj ?_|intro _|refine WO.acallR (hc:=hT) (hR:=fun wx hm=>hwc.mod hm.mod Sm) (k:=?_)|refine Tc ?_|exact Tz)
 refine WC.adraw 14 (k:=?_)
 iterate 14 (first|refine DQ.does (fun s _=>zm (hs:=hwc) (hc:=rfl)) Dp.const ?_|refine DQ.does (fun s _=>zG rfl rfl hsub) Dp.const ?_|refine DQ.does (fun s _=>zb (o':=n*40) rfl rfl Om (Nat.zero_add _)) Dp.const ?_|refine DQ.does (fun s _=>zn (vs:=bkC y.ep y.ah y.ep (AQ y.gh y.HL.length y.HL.length) (AQ y.gv y.VL.length y.VL.length) (AQ y.go y.OL.length y.OL.length)) (hs:=hwr) (hle:=Nat.zero_le _) (hc:=hcut) (hl:=hbk)) Dp.const ?_|refine DQ.acallR (hc:=hB) (hR:=fun wx hm=>⟨(hw.H y (List.mem_of_getElem? hy)).mod hm.mod,(hw.O y (List.mem_of_getElem? hy)).mod hm.mod⟩) (k:=?_)|refine Da ?_|refine Dc ?_)
 refine DQ.anil (k:=?_);intro sx _
 repeat (first|refine Tj ?_|intro _|refine WO.stores (zo (vs:=byC HS) (cs':=byC HS) (hl:=hbl) (h1:=zM HS) (hc:=zE (by rw[hbl];rfl)) (hle:=by rw[hbl];rfl)) ?_|refine Tc ?_|exact Tz)
 exact WX.aret1 (hr:=vF (vs:=byC HS) (hc:=zx hbl) (hl:=hbl)) (hp:=rfl)
theorem dD (m:Nat) (hsec:sec=(m:Int)) (hm0:0<m) (hm10:m≤100) (y:Wh) (rd i j:Nat) (HS:LN) (hij:rd=i*m+j) (hj:j<m) (hy:X[i]?=some y) (hol:y.OL.length=m) (hHS:y.OL[j]?=some HS) :
  Fn Tryz.prog 23 [pt P,.int .u64 (rd:Int)] (ChR p q g h f sec N P gN cN gl cl X) (Is (.tuple #[.agg (byC HS).toArray,.int .i64 0])):=by
 subst hsec;have hT:=vQ p q g h f (m:Int) (AQ gN N.length cN) (agV gl cl X.length X.length) P;have hyG:=hX y (List.mem_of_getElem? hy);have hbl:(byC HS).length=32:=by rw[zd];exact hyG.O _ (List.mem_of_getElem? hHS)
 have hi:i<X.length:=by
  rcases Nat.lt_or_ge i X.length with h|h
  ·exact h
  ·rw[List.getElem?_eq_none h] at hy;cases hy
 obtain⟨n,hn⟩ : ∃ n,X.length=n+1:=⟨X.length - 1,by omega⟩;have him:i*m≤16*m:=Nat.mul_le_mul_right m Om;have him2:i*m+m≤16*m:=by
  have:=Nat.mul_le_mul_right m (show i+1≤16 by omega);rwa [Nat.add_mul,Nat.one_mul] at this
 have hcv:IntKind.u64.wrap (m:Int)=((m:Nat):Int):=u64_in Om Om;have hmul:IntKind.u64.wrap (16*(m:Int))=((16*m:Nat):Int):=by
  rw[show (16:Int)*(m:Int)=((16*m:Nat):Int) from by omega];exact u64_in Om Om
 have hq0:(rd:Int).tdiv (m:Int)=((i:Nat):Int):=by
  rw[hij];show (((i*m+j) / m:Nat):Int)=_;rw[Nat.mul_comm,Nat.mul_add_div hm0,Nat.div_eq_of_lt hj,Nat.add_zero]
 have hq:IntKind.u64.wrap ((rd:Int).tdiv (m:Int))=((i:Nat):Int):=by rw[hq0];exact u64_in Om Om
 have hr:(rd:Int).tmod (m:Int)=((j:Nat):Int):=by
  rw[hij];show (((i*m+j)%m:Nat):Int)=_;rw[Nat.mul_comm,Nat.mul_add_mod,Nat.mod_eq_of_lt hj]
 have hcl:IntKind.u64.wrap (X.length:Int)=((X.length:Nat):Int):=u64_in Om Om;have hmz:(m:Int)≠0:=by omega
 have hout:=aff (r:=mkz (cl - X.length) whZ) (fun x hx=>(hX x hx).al) hy;refine Fn.enter Tryz.func23 rfl rfl rfl ?_;intro w hw;have hwc:=hw.c;have hwr:=hw.r Om;have hV:agV gl cl X.length X.length=AQ gl X.length cl:=by rw[hn];rfl
 rw[hV] at hT hwc;obtain⟨b,o,hbo,_,hs⟩:=id (hw.O y (List.mem_of_getElem? hy)) |>.get hHS
 cases hbo;have hcj:cut (y.OL.flatMap byC) (0+j*32 - 0) 32=byC HS:=by
  rw[Nat.zero_add,Nat.sub_zero];exact ve (k:=32) (fun x hx=>by rw[zd,hyG.O x hx]) hHS
 repeat (first|refine WO.does (zm (hs:=hwc) (hc:=rfl)) ?_|refine WO.does (zr rfl hcv) ?_|refine WO.does (yq rfl rfl hmul) ?_|refine WO.does (zV rfl rfl Om) ?_|refine Tj ?_|intro _|refine WO.acallR (hc:=hT) (hR:=fun wx hm=>hwc.mod hm.mod Sm) (k:=?_)|refine Tc ?_|exact Tz)
 refine WC.adraw 11 (k:=?_)
 iterate 11 (first|refine DQ.does (fun s _=>ua rfl rfl hmz hq) Dp.const ?_|refine DQ.does (fun s _=>zm (hs:=hwc) (hc:=rfl)) Dp.const ?_|refine DQ.does (fun s _=>zr rfl hcl) Dp.const ?_|refine DQ.does (fun s _=>zV rfl rfl Om) Dp.const ?_|refine Da ?_|refine Dc ?_)
 refine DQ.anil (k:=?_);intro sx _
 repeat (first|refine Tk ?_|intro _|exact Tz)
 refine WC.adraw 16 (k:=?_)
 iterate 16 (first|refine DQ.does (fun s _=>ua rfl rfl hmz hq) Dp.const ?_|refine DQ.does (fun s _=>yB rfl rfl hmz hr) Dp.const ?_|refine DQ.does (fun s _=>zm (hs:=hwc) (hc:=rfl)) Dp.const ?_|refine DQ.does (fun s _=>zb (o':=i*40) rfl rfl hi (Nat.zero_add _)) Dp.const ?_|refine DQ.does (fun s _=>zm (hs:=hwr) (hc:=hout)) Dp.const ?_|refine DQ.does (fun s _=>zb (o':=0+j*32) rfl rfl Om rfl) Dp.const ?_|refine DQ.does (fun s _=>zn (vs:=byC HS) (hs:=hs) (hle:=Nat.zero_le _) (hc:=hcj) (hl:=hbl)) Dp.const ?_|refine Da ?_|refine Dc ?_)
 refine DQ.anil (k:=?_);intro sx _
 repeat (first|refine Tj ?_|intro _|refine WO.stores (zo (vs:=byC HS) (cs':=byC HS) (hl:=hbl) (h1:=zM HS) (hc:=zE (by rw[hbl];rfl)) (hle:=by rw[hbl];rfl)) ?_|refine Tc ?_|exact Tz)
 exact WX.ret2 rfl (yd (vs:=byC HS) rfl Hs.a (zx hbl) hbl) (zK rfl) [] Lle.nil rfl
omit hX in
theorem iS (m:Nat) (hsec:sec=(m:Int)) (hm0:0<m) (hm10:m≤100) (rd i j:Nat) (hij:rd=i*m+j) (hj:j<m) (hi:X.length≤i) (hi16:i<16) :
  Fn Tryz.prog 23 [pt P,.int .u64 (rd:Int)] (fun w=>Seg w P 0 (chC p q g h f sec (AQ gN N.length cN) (agV gl cl X.length X.length))) (Is (.tuple #[.agg (byC (List.replicate 32 0)).toArray,.int .i64 13])):=by
 subst hsec;have hT:=vQ p q g h f (m:Int) (AQ gN N.length cN) (agV gl cl X.length X.length) P;obtain⟨V,hV,pp,c',hVs⟩ : ∃ V,agV gl cl X.length X.length=V∧∃ pp c',V=.slice pp X.length c':=⟨_,rfl,by cases X.length<;>exact⟨_,_,rfl⟩⟩;rw[hV] at hT ⊢;clear hV;subst hVs;have him:i*m+m≤16*m:=by
  have:=Nat.mul_le_mul_right m (show i+1≤16 by omega);rwa [Nat.add_mul,Nat.one_mul] at this
 have hcv:IntKind.u64.wrap (m:Int)=((m:Nat):Int):=u64_in Om Om;have hmul:IntKind.u64.wrap (16*(m:Int))=((16*m:Nat):Int):=by
  rw[show (16:Int)*(m:Int)=((16*m:Nat):Int) from by omega];exact u64_in Om Om
 have hq0:(rd:Int).tdiv (m:Int)=((i:Nat):Int):=by
  rw[hij];show (((i*m+j) / m:Nat):Int)=_;rw[Nat.mul_comm,Nat.mul_add_div hm0,Nat.div_eq_of_lt hj,Nat.add_zero]
 have hq:IntKind.u64.wrap ((rd:Int).tdiv (m:Int))=((i:Nat):Int):=by rw[hq0];exact u64_in Om Om
 have hcl:IntKind.u64.wrap (X.length:Int)=((X.length:Nat):Int):=u64_in Om Om;have hmz:(m:Int)≠0:=by omega
 have hbl:(byC (List.replicate 32 0)).length=32:=rfl;refine Fn.enter Tryz.func23 rfl rfl rfl ?_;intro w hw
 repeat (first|refine WO.does (zm (hs:=hw) (hc:=rfl)) ?_|refine WO.does (zr rfl hcv) ?_|refine WO.does (yq rfl rfl hmul) ?_|refine WO.does (zV rfl rfl Om) ?_|refine Tj ?_|intro _|refine WO.acallR (hc:=hT) (hR:=fun wx hm=>hw.mod hm.mod Sm) (k:=?_)|refine Tc ?_|exact Tz)
 refine WC.adraw 11 (k:=?_)
 iterate 11 (first|refine DQ.does (fun s _=>ua rfl rfl hmz hq) Dp.const ?_|refine DQ.does (fun s _=>zm (hs:=hw) (hc:=rfl)) Dp.const ?_|refine DQ.does (fun s _=>zr rfl hcl) Dp.const ?_|refine DQ.does (fun s _=>y4 rfl rfl Om) Dp.const ?_|refine Da ?_|refine Dc ?_)
 refine DQ.anil (k:=?_);intro sx _
 repeat (first|refine WO.does (zA (cs:=byC (List.replicate 32 0)) rfl rfl Kr) ?_|refine WO.stores (zo (vs:=byC (List.replicate 32 0)) (cs':=byC (List.replicate 32 0)) (hl:=hbl) (h1:=zM _) (hc:=zE (by rw[hbl];rfl)) (hle:=by rw[hbl];rfl)) ?_|refine Tj ?_|intro _|refine Tc ?_|exact Tz)
 done
end
structure Dt where
 ep:Nat
 ah:List Nat
 HL:List (List Nat)
 OL:List (List Nat)
def agT (y:Wh):Dt:=⟨y.ep,y.ah,y.HL,y.OL⟩
structure ChI (X:List Wh) (D:List Dt):Prop where
 dat:X.map agT=D
 ok:∀ x∈X,WhG x
theorem ChI.len {X:List Wh} {D:List Dt} (h:ChI X D):X.length=D.length:=by rw[← h.dat,List.length_map]
theorem ChI.get {X:List Wh} {D:List Dt} (h:ChI X D) {i:Nat} {d:Dt} (hd:D[i]?=some d):∃ y,X[i]?=some y∧agT y=d:=by
 rw[← h.dat,List.getElem?_map] at hd;cases hx:X[i]? with
 | none=>rw[hx] at hd;cases hd
 | some y=>rw[hx] at hd;exact⟨y,rfl,Option.some.inj hd⟩
theorem ChI.nil:ChI [] []:=⟨rfl,fun _ h=>by cases h⟩
theorem ChI.snoc {X:List Wh} {D:List Dt} (h:ChI X D) {y:Wh} {d:Dt} (hy:agT y=d) (hg:WhG y):ChI (X++[y]) (D++[d]) :=
 ⟨by rw[List.map_append,h.dat,← hy];rfl,fun x hx=>by
  rcases List.mem_append.1 hx with hx|hx
  ·exact h.ok x hx
  ·rw[List.mem_singleton.1 hx];exact hg⟩
section
variable (p q g h F m:Nat) (N:LP) (P gN cN gl cl:Nat) (X:List Wh) (D:List Dt)
def hdD:List Nat:=match D.getLast? with
 | none=>gnH p q g h F m N
 | some d=>blH d.ep d.ah d.HL d.OL
theorem c9 (hI:ChI X D) (h16:D.length≤16) (hp:p<ze) (hq:q<ze) (hg:g<ze) (hh:h<ze) (hN:zY N) (hNl:N.length≤100) (hs:y7 p q g h (F:Int) (m:Int) N=true) :
  Fn Tryz.prog 18 [pt P] (ChR p q g h (F:Int) (m:Int) N P gN cN gl cl X) (Is (.agg (byC (hdD p q g h F m N D)).toArray)):=by
 have hl:=hI.len
 rcases List.eq_nil_or_concat D with hD|⟨D0,d,hD⟩
 ·subst hD;obtain rfl:X=[]:=List.length_eq_zero_iff.1 hl;exact Fn.weak (ba p q g h F m N P gN cN hp hq hg hh hN hNl hs) (fun w hw=>⟨hw.c,hw.N⟩) (fun _ _ hv=>hv)
 ·rw[List.concat_eq_append] at hD;have hd:D[D0.length]?=some d:=by rw[hD];simp
  obtain⟨y,hy,hyd⟩:=hI.get hd;have h1:=bj p q g h (F:Int) (m:Int) N P gN cN gl cl X hI.ok Om y D0.length (by rw[hl,hD];simp) hy;have h2:hdD p q g h F m N D=blH y.ep y.ah y.HL y.OL:=by
   unfold hdD;rw[hD,List.getLast?_append];simp only[List.getLast?_singleton,Option.some_or];rw[← hyd];rfl
  rw[h2];exact h1
theorem abQ (hI:ChI X D) (h16:D.length≤16) (hm0:0<m) (hm10:m≤100) (d:Dt) (rd i j:Nat) (HS:LN) (hij:rd=i*m+j) (hj:j<m) (hd:D[i]?=some d) (hol:d.OL.length=m) (hHS:d.OL[j]?=some HS) :
  Fn Tryz.prog 23 [pt P,.int .u64 (rd:Int)] (ChR p q g h (F:Int) (m:Int) N P gN cN gl cl X) (Is (.tuple #[.agg (byC HS).toArray,.int .i64 0])):=by
 obtain⟨y,hy,rfl⟩:=hI.get hd;exact dD p q g h (F:Int) (m:Int) N P gN cN gl cl X hI.ok (by have:=hI.len;omega) m rfl hm0 hm10 y rd i j HS hij hj hy hol hHS
end
structure Mb where
 ep:Nat
 ah:List Nat
 seed:Nat
 HL:List (List Nat)
 W:List ((Dd × Dk) × Nw)
 gh:Nat
 ch:Nat
 gv:Nat
 cv:Nat
 go:Nat
 co:Nat
 gl:Nat
 cl:Nat
 gs:Nat
 cs:Nat
section
variable (p q g a F m:Nat) (ks:LP) (n Qm v:Nat)
abbrev mbV (b:Mb):List Value:=bkC b.ep b.ah b.ep (AQ b.gh n b.ch) (AQ b.gv Qm b.cv) (AQ b.go m m)
abbrev mbE (b:Mb):List Value:=[AQ b.gl n b.cl,.slice none 0 0,AQ b.gs n b.cs]
def mbO (b:Mb):List (List Nat):=vaL p q (exN p g a) m b.ep b.HL n (fun i=>dqL q (frP b.seed b.ep i) (F+m))
def mbM (b:Mb):List Ent:=⟨b.gl,51,(b.W.map Prod.fst).flatMap (ddC b.ep)++mkz (b.cl - n) dzC⟩::⟨b.gs,53,(b.W.map (swW b.ep)).flatMap swC++mkz (b.cs - n) swZ⟩::⟨b.gh,70,b.HL.flatMap byC++mkz (b.ch - n) hzC⟩::⟨b.gv,140,(vtL p q g ks b.ep v (hOf (zO tm) b.HL) Qm).flatMap vtC++mkz (b.cv - Qm) vtZ⟩::⟨b.go,70,(mbO p q g a F m n b).flatMap byC++mkz (b.co - m) hzC⟩::mdB b.W
structure MbG (b:Mb):Prop where
 k:tD p q g a F m ks b.ep (frR b.seed b.ep) n b.W
 H:(b.W.map fun x=>ddH b.ep x.1.1)=b.HL
 al:b.ah.length=32
 ab:∀ x∈b.ah,x<256
def lC (b:Mb):Dt:=⟨b.ep,b.ah,b.HL,mbO p q g a F m n b⟩
variable (P gK cK gc cc:Nat) (X:List Wh) (D:List Dt) (A:List Ent)
theorem ab2 (b:Mb) (hb:MbG p q g a F m ks n b) (hI:ChI X D) (hah:b.ah=hdD p q g (exN p g a) F m (csN p g a ks) D) (hepD:b.ep=D.length+1) (h16:D.length<16) (hcc:0<D.length→D.length≤cc∧cc<9223372036854775808)
  (hcs:sQ p q g a (F:Int) (m:Int) ks) (hp:p<ze) (hq:q<ze) (hg:g<ze) (hv:v<1000) (h3F:3*F+1≤ks.length) (hn:ks.length - F=n) (hQm:(ks.length+F) / 2+1=Qm)
  (hA:∀ e∈mbM p q g a F m ks n Qm v b,e∈A) (h0:0 ∉ (chE p q g (exN p g a) (F:Int) (m:Int) (csN p g a ks) P gK cK gc cc X++A).map Ent.g) :
  FnL Tryz.prog 19 [pt P,.agg (mbV m n Qm b).toArray,.agg (mbE n b).toArray] (chE p q g (exN p g a) (F:Int) (m:Int) (csN p g a ks) P gK cK gc cc X++A) tc
   (fun u L=>∃ T',L=T'++A∧u=.int .i64 0∧∃ gc' cc' X',T'=chE p q g (exN p g a) (F:Int) (m:Int) (csN p g a ks) P gK cK gc' cc' X'∧ChI X' (D++[lC p q g a F m n b])∧D.length+1≤cc'∧cc' < 9223372036854775808):=by
 have hl:=hI.len;have hNl2:=yU p g a ks;have hk7:=hcs.len;obtain⟨s1,s7,_,s0,s2,s5,s8,_⟩:=zS hcs.set;have hWl:=hb.k.len;have hHl:b.HL.length=n:=by rw[← hb.H,List.length_map,hWl]
 have hHd:=c9 p q g (exN p g a) F m (csN p g a ks) P gK cK gc cc X D hI Om hp hq hg (uw hp) (rF hp) Om hcs.set;rw[← hah] at hHd;have hOl:(mbO p q g a F m n b).length=m:=tE ..;have h:=dh p q g a F m ks b.ep b.ah b.seed v n Qm b.HL b.W b.gh b.ch b.gv b.cv b.go b.co b.gl b.cl b.gs b.cs P gK cK gc cc X A _ hcs hp hq hg Om hb.al hb.ab hv h3F hn hQm hb.k hb.H Om Om (by rw[hl];exact hcc) (fun x hx=>(hI.ok x hx).al) hHd (fun w he=>ChR.of _ _ _ _ _ _ _ _ _ _ _ _ _ (fun e h=>he e (List.mem_append_left _ h))) hA h0;intro w h1 h2 h3;refine (h w h1 h2 h3).mono ?_;rintro e w' ⟨v',N',rfl,hm,T',rfl,rfl,gl',cl',y,rfl,hyI,hyD,h5,h6⟩;refine⟨_,_,rfl,hm,_,rfl,rfl,gl',cl',_,rfl,hI.snoc ?_ ?_,by omega,h6⟩
 ·unfold agT lC;rw[hyD.ep,hyD.ah,hyD.H,hyD.O];rfl
 ·have hO:∀ X∈mbO p q g a F m n b,X.length=32∧∀ b∈X,b<256:=mj;have hH:∀ X∈b.HL,X.length=32∧∀ b∈X,b<256:=fun X hX=>by
   rw[← hb.H] at hX;obtain⟨z,_,rfl⟩:=List.mem_map.1 hX;exact⟨vA _ _,nN _ _⟩
  exact⟨hyI.al,by rw[hyD.ah];exact hb.ab,by rw[hyD.H];exact fun X hX=>(hH X hX).1,by rw[hyD.H];exact fun X hX=>(hH X hX).2,by rw[hyD.H];omega,by rw[hyD.O];exact fun X hX=>(hO X hX).1,by rw[hyD.O];exact fun X hX=>(hO X hX).2,by rw[hyD.O];show 0<(mbO p q g a F m n b).length∧(mbO p q g a F m n b).length≤64;omega⟩
end
end Sx
end
end Go.Proofs.YtiaibpcaloigkaaGreatDoor
