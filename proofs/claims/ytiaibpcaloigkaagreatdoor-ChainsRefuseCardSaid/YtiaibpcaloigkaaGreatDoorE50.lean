/- Part 50 of the proof. -/
import Derived.Test.YtiaibpcaloigkaaGreatDoorE48
import Derived.Test.YtiaibpcaloigkaaGreatDoorE49
set_option linter.unusedSimpArgs false
set_option linter.unusedVariables false
namespace Go.Proofs.YtiaibpcaloigkaaGreatDoor
section
open Go Go.RowKit Go.BigFrame
namespace Sx
attribute [local irreducible] DQ WC WO WT WX y5 ddH gnH hOf voH vtS wd
theorem aeF {p q g a F m:Nat} {ks:LP} {ep n:Nat} {PP:List Rr} {W:List ((Dd × Dk) × Nw)} (kW:tz p q g a F m ks ep PP n W) {x:Sw} (hx:x∈W.map (swW ep)):x.P.length=F+m:=by
 obtain⟨z,hz,rfl⟩:=List.mem_map.1 hx;have h1:z.2.xs∈W.map (fun x=>x.2.xs):=List.mem_map.2 ⟨z,hz,rfl⟩;rw[kW.p] at h1;obtain⟨i,_,hi⟩:=List.mem_map.1 h1;show z.2.xs.length=_;rw[← hi,uP]
section
variable (p q g a F m:Nat) (ks:LP) (ep:Nat) (ah:LN) (seed v n Qm:Nat) (HL:List (List Nat)) (W:List ((Dd × Dk) × Nw)) (gh ch gv cv go co gl cl gs cs:Nat)
theorem ek (hHl:HL.length=n) (hWl:W.length=n) {w:World} (h:∀ e∈⟨gl,51,(W.map Prod.fst).flatMap (ddC ep)++mkz (cl - n) dzC⟩::⟨gs,53,(W.map (swW ep)).flatMap swC++mkz (cs - n) swZ⟩::⟨gh,70,HL.flatMap byC++mkz (ch - n) hzC⟩::⟨gv,140,(vtL p q g ks ep v (hOf (zK vy) HL) Qm).flatMap vtC++mkz (cv - Qm) vtZ⟩::⟨go,70,(vaL p q (exN p g a) m ep HL n (fun i=>dqL q (frP seed ep i) (F+m))).flatMap byC++mkz (co - m) hzC⟩::mdB W,e.ok w) :
  EvR ep (some ⟨gl,0,none⟩) cl (W.map Prod.fst) none 0 [] (some ⟨gs,0,none⟩) cs (W.map (swW ep)) w∧RdF byC (AQ gh n ch) HL w∧RdF vtC (AQ gv Qm cv) (vtL p q g ks ep v (hOf (zK vy) HL) Qm) w∧RdF byC (AQ go m m) (vaL p q (exN p g a) m ep HL n (fun i=>dqL q (frP seed ep i) (F+m))) w:=by
 have hm:Mr w [] (⟨gl,51,(W.map Prod.fst).flatMap (ddC ep)++mkz (cl - n) dzC⟩::⟨gs,53,(W.map (swW ep)).flatMap swC++mkz (cs - n) swZ⟩::⟨gh,70,HL.flatMap byC++mkz (ch - n) hzC⟩::⟨gv,140,(vtL p q g ks ep v (hOf (zK vy) HL) Qm).flatMap vtC++mkz (cv - Qm) vtZ⟩::⟨go,70,(vaL p q (exN p g a) m ep HL n (fun i=>dqL q (frP seed ep i) (F+m))).flatMap byC++mkz (co - m) hzC⟩::mdB W) w:=⟨.refl _ _,h⟩;exact⟨⟨RdF.ownO (Hs.sg hm) (by rw[List.length_map,hWl]),fun y hy=>jo (fun e he=>hm.ok e (by repeat (first|exact he|apply List.mem_cons_of_mem))) y hy,RdF.nilV,RdF.ownO (Hs.sg hm) (by rw[List.length_map,hWl]),fun x hx=>by
  obtain⟨z,hz,rfl⟩:=List.mem_map.1 hx;exact jg (fun e he=>hm.ok e (by repeat (first|exact he|apply List.mem_cons_of_mem))) z.2 (List.mem_map.2 ⟨z,hz,rfl⟩)⟩,RdF.ownO (Hs.sg hm) hHl,RdF.ownO (Hs.sg hm) (yS ..),RdF.ownO (Hs.sg hm) (ug ..)⟩
variable (P gK cK gc cc:Nat) (X:List Wh) (A:List Ent)
theorem eM (HdR:World→Prop) (hcs:tY p q g a (F:Int) (m:Int) ks) (hp:p<ze) (hq:q<ze) (hg:g<ze) (hep:ep<18446744073709551616) (hal:ah.length=32) (hab:∀ b∈ah,b<256) (hv:v<1000) (h3F:3*F+1≤ks.length) (hn:ks.length - F=n) (hQm:(ks.length+F) / 2+1=Qm)
  (kW:tz p q g a F m ks ep (frR seed ep) n W) (hHL:(W.map fun x=>ddH ep x.1.1)=HL) (hn16:X.length<16) (hepX:ep=X.length+1) (hcc:0<X.length→X.length≤cc∧cc<9223372036854775808) (hX:∀ x∈X,x.ah.length=32)
  (hHd:Fn Tryz.prog 18 [pt P] HdR (Is (.agg (byC ah).toArray)))
  (hHA:∀ w,(∀ e∈chE p q g (exN p g a) (F:Int) (m:Int) (csN p g a ks) P gK cK gc cc X++A,e.ok w)→HdR w)
  (hA:∀ e∈⟨gl,51,(W.map Prod.fst).flatMap (ddC ep)++mkz (cl - n) dzC⟩::⟨gs,53,(W.map (swW ep)).flatMap swC++mkz (cs - n) swZ⟩::⟨gh,70,HL.flatMap byC++mkz (ch - n) hzC⟩::⟨gv,140,(vtL p q g ks ep v (hOf (zK vy) HL) Qm).flatMap vtC++mkz (cv - Qm) vtZ⟩::⟨go,70,(vaL p q (exN p g a) m ep HL n (fun i=>dqL q (frP seed ep i) (F+m))).flatMap byC++mkz (co - m) hzC⟩::mdB W,e∈A) (h0:0 ∉ (chE p q g (exN p g a) (F:Int) (m:Int) (csN p g a ks) P gK cK gc cc X++A).map Ent.g) :
  FnL Tryz.prog 19 [pt P,.agg (bkC ep ah ep (AQ gh n ch) (AQ gv Qm cv) (AQ go m m)).toArray,evV (AQ gl n cl) (.slice none 0 0) (AQ gs n cs)] (chE p q g (exN p g a) (F:Int) (m:Int) (csN p g a ks) P gK cK gc cc X++A) uX
   (fun u L=>∃ T',L=T'++A∧u=.int .i64 0∧∃ gl' cl' y,T'=chE p q g (exN p g a) (F:Int) (m:Int) (csN p g a ks) P gK cK gl' cl' (X++[y])∧WhI y∧WhD y ep ah HL (vtL p q g ks ep v (hOf (zK vy) HL) Qm) (vaL p q (exN p g a) m ep HL n (fun i=>dqL q (frP seed ep i) (F+m))) (W.map Prod.fst) (W.map (swW ep))∧X.length+1≤cl'∧cl' < 9223372036854775808):=by
 have hNl2:=yL p g a ks;have hk7:=hcs.len;obtain⟨s1,s7,_,s0,s2,s5,s8,_⟩:=zR hcs.set;have hWl:=kW.len;have hTl:(W.map Prod.fst).length=n:=by rw[List.length_map,hWl]
 have hSl:(W.map (swW ep)).length=n:=by rw[List.length_map,hWl]
 have hHl:HL.length=n:=by rw[← hHL,List.length_map,hWl]
 have hE:=sq hcs hp hq kW Om;have hVt:=pv hcs hq (ep:=ep) (v:=v) (n:=Qm) (S:=hOf (zK vy) HL) hep hv (zJ _ _) (yY _ _) Om;have hCk:=af1 p q g a F m ks (some ⟨gK,0,none⟩) cK ep ah seed v n Qm HL W gh ch gv cv go gl cl gs cs hcs hp hq hg hep hal hab hv h3F hn hQm kW hHL;have hVl:(vtL p q g ks ep v (hOf (zK vy) HL) Qm).length=Qm:=yS ..;have hOl:(vaL p q (exN p g a) m ep HL n (fun i=>dqL q (frP seed ep i) (F+m))).length=m:=ug ..
 have h:=eD p q g (exN p g a) (F:Int) (m:Int) (csN p g a ks) P gK cK gc cc X A ep ah (some ⟨gh,0,none⟩) (some ⟨gv,0,none⟩) (some ⟨go,0,none⟩) (some ⟨gl,0,none⟩) (some ⟨gs,0,none⟩) ch cv m cl cs HL (vtL p q g ks ep v (hOf (zK vy) HL) Qm) (vaL p q (exN p g a) m ep HL n (fun i=>dqL q (frP seed ep i) (F+m))) (W.map Prod.fst) (W.map (swW ep)) HdR _ ah hal hal hn16 hepX hcc hX hHd (by rw[hHl,hVl,hOl,hTl,hSl,hNl2];exact hCk)
  Om (fun x hx=>by
   rw[← hHL] at hx;obtain⟨z,_,rfl⟩:=List.mem_map.1 hx;exact vq _ _) Om (fun x hx=>(hVt.ok x hx).l) Om (fun x hx=>(j6 x hx).1) Om (fun y hy=>by
   obtain⟨j,hj⟩:=List.getElem?_of_mem hy;exact (hE.wy j y hj).fit) Om (fun x hx=>by
   have:=aeF kW hx;omega) (fun w hw he=>by
   have h1:=ek p q g a F m ks ep seed v n Qm HL W gh ch gv cv go co gl cl gs cs hHl hWl (w:=w) (fun e h=>he e (List.mem_append_right _ (hA e h)));have h2:=hHA w he;have hm:Mr w [] (chE p q g (exN p g a) (F:Int) (m:Int) (csN p g a ks) P gK cK gc cc X++A) w:=⟨.refl _ _,he⟩;have h3:RdF z7 (AQ gK ks.length cK) (csN p g a ks) w:=by
    have:=Ent.ok.seg (he ⟨gK,105,(csN p g a ks).flatMap z7++mkz (cK - (csN p g a ks).length) (vK 0 0)⟩ (List.mem_append_left _ (List.mem_cons_of_mem _ (List.mem_cons_self ..)))) 0;rw[List.drop_zero] at this;exact RdF.ownO this hNl2
   rw[hHl,hVl,hOl];exact⟨h2,⟨h3,h1.1,h1.2.1,h1.2.2.1,h1.2.2.2,hw⟩,h1.2.1,h1.2.2.1,h1.2.2.2,h1.1⟩) h0
 rw[hHl,hVl,hOl,hTl,hSl] at h;exact h
end
end Sx
end
end Go.Proofs.YtiaibpcaloigkaaGreatDoor
