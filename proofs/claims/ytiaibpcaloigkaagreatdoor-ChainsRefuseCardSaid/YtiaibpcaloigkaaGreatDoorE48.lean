/- Part 48 of the proof. -/
import Derived.Test.YtiaibpcaloigkaaGreatDoorE47
set_option linter.unusedSimpArgs false
set_option linter.unusedVariables false
namespace Go.Proofs.YtiaibpcaloigkaaGreatDoor
section
open Go Go.RowKit Go.BigFrame
namespace Sx
attribute [local irreducible] DQ WC WO WT WX y5 ddH gnH hOf voH vtS wd
section
variable (p q g a F m:Nat) (ks:LP) (pt:Option Addr) (c ep:Nat) (ah:LN) (seed v n Qm:Nat) (HL:List (List Nat)) (W:List ((Dd × Dk) × Nw)) (gh ch gv cv go gl cl gs cs:Nat)
theorem af1 (hcs:tY p q g a (F:Int) (m:Int) ks) (hp:p<ze) (hq:q<ze) (hg:g<ze) (hep:ep<18446744073709551616) (hal:ah.length=32) (hab:∀ b∈ah,b<256) (hv:v<1000) (h3F:3*F+1≤ks.length) (hn:ks.length - F=n) (hQm:(ks.length+F) / 2+1=Qm)
  (kW:tz p q g a F m ks ep (frR seed ep) n W) (hHL:(W.map fun x=>ddH ep x.1.1)=HL) :
  Fn Tryz.prog 25 [stV p q g (exN p g a) (F:Int) (m:Int) (.slice pt ks.length c),.agg (byC ah).toArray,.agg (bkC ep ah ep (AQ gh n ch) (AQ gv Qm cv) (AQ go m m)).toArray,evV (AQ gl n cl) (.slice none 0 0) (AQ gs n cs)]
   (fun w=>RdF z7 (.slice pt ks.length c) (csN p g a ks) w∧EvR ep (some ⟨gl,0,none⟩) cl (W.map Prod.fst) none 0 [] (some ⟨gs,0,none⟩) cs (W.map (swW ep)) w∧RdF byC (AQ gh n ch) HL w∧RdF vtC (AQ gv Qm cv) (vtL p q g ks ep v (hOf (zK vy) HL) Qm) w∧RdF byC (AQ go m m) (vaL p q (exN p g a) m ep HL n (fun i=>dqL q (frP seed ep i) (F+m))) w∧uX w) (Is (.int .i64 0)):=by
 have hNl2:=yL p g a ks;have hk7:=hcs.len;have hWl:=kW.len;have hTl:(W.map Prod.fst).length=n:=by rw[List.length_map,hWl]
 have hSl:(W.map (swW ep)).length=n:=by rw[List.length_map,hWl]
 have hHl:HL.length=n:=by rw[← hHL,List.length_map,hWl]
 have hE:=sq hcs hp hq kW Om;have hVt:=pv hcs hq (ep:=ep) (v:=v) (n:=Qm) (S:=hOf (zK vy) HL) hep hv (zJ _ _) (yY _ _) Om
 have h:=cg p q g (exN p g a) F m pt c (csN p g a ks) ep ah (some ⟨gh,0,none⟩) ch HL (some ⟨gv,0,none⟩) cv (vtL p q g ks ep v (hOf (zK vy) HL) Qm) (some ⟨go,0,none⟩) m (vaL p q (exN p g a) m ep HL n (fun i=>dqL q (frP seed ep i) (F+m))) (some ⟨gl,0,none⟩) cl (W.map Prod.fst) none 0 (some ⟨gs,0,none⟩) cs (W.map (swW ep)) v 0 (fun i=>dqL q (frP seed ep i) (F+m)) hp hq hg (vO hp) (tL hp) Om hcs.set hep hal hab
  (by rw[hHl,hTl]) (by rw[← hHL];exact kW.hs) Om Om hE.d Om hVt (by rw[yS];omega) (by rw[yS];omega) Dt (by rw[yS,hNl2];omega) (ug _ _ _ _ _ _ _ _) j6 Om hE.sn hE.wy hE.wb
 rw[hTl,hSl,ug,yS,hNl2,decide_eq_true rfl] at h;exact h
end
theorem m7.tail {p q g:Nat} {N:LP} {ep v a:Nat} {S:LN} {VL:List Vt} (h:m7 p q g N ep v a S VL):m7 p q g N ep v (a+1) S (VL.drop 1) :=
 ⟨fun i x hx=>by
  rw[List.getElem?_drop] at hx;obtain⟨h1,h2,h3,h4⟩:=h.of _ _ hx;exact⟨h1,h2,h3,by omega⟩,fun x hx=>h.ok x (List.mem_of_mem_drop hx),fun x hx=>h.sg x (List.mem_of_mem_drop hx)⟩
section
variable (p q g a F m:Nat) (ks:LP) (pt:Option Addr) (c ep:Nat) (ah:LN) (seed v n Qm:Nat) (HL:List (List Nat)) (W:List ((Dd × Dk) × Nw)) (gh ch gv cv go co gl cl gs cs:Nat)
theorem ae3 (OL:List (List Nat)) (hcs:tY p q g a (F:Int) (m:Int) ks) (hp:p<ze) (hq:q<ze) (hg:g<ze) (hep:ep<18446744073709551616) (hal:ah.length=32) (hab:∀ b∈ah,b<256) (hv:v<1000) (h3F:3*F+1≤ks.length) (hn:ks.length - F=n) (hQm:(ks.length+F) / 2+1=Qm)
  (kW:tz p q g a F m ks ep (frR seed ep) n W) (hHL:(W.map fun x=>ddH ep x.1.1)=HL) (hOl:OL.length=m) (hOk:∀ X∈OL,X.length=32∧∀ b∈X,b<256) (hne:(vaL p q (exN p g a) m ep HL n (fun i=>dqL q (frP seed ep i) (F+m)))≠OL) :
  Fn Tryz.prog 25 [stV p q g (exN p g a) (F:Int) (m:Int) (.slice pt ks.length c),.agg (byC ah).toArray,.agg (bkC ep ah ep (AQ gh n ch) (AQ gv Qm cv) (AQ go m co)).toArray,evV (AQ gl n cl) (.slice none 0 0) (AQ gs n cs)]
   (fun w=>RdF z7 (.slice pt ks.length c) (csN p g a ks) w∧EvR ep (some ⟨gl,0,none⟩) cl (W.map Prod.fst) none 0 [] (some ⟨gs,0,none⟩) cs (W.map (swW ep)) w∧RdF byC (AQ gh n ch) HL w∧RdF vtC (AQ gv Qm cv) (vtL p q g ks ep v (hOf (zK vy) HL) Qm) w∧RdF byC (AQ go m co) OL w∧uX w) (Is (.int .i64 11)):=by
 have hNl2:=yL p g a ks;have hk7:=hcs.len;have hWl:=kW.len;have hTl:(W.map Prod.fst).length=n:=by rw[List.length_map,hWl]
 have hSl:(W.map (swW ep)).length=n:=by rw[List.length_map,hWl]
 have hHl:HL.length=n:=by rw[← hHL,List.length_map,hWl]
 have hE:=sq hcs hp hq kW Om;have hVt:=pv hcs hq (ep:=ep) (v:=v) (n:=Qm) (S:=hOf (zK vy) HL) hep hv (zJ _ _) (yY _ _) Om
 have h:=cg p q g (exN p g a) F m pt c (csN p g a ks) ep ah (some ⟨gh,0,none⟩) ch HL (some ⟨gv,0,none⟩) cv (vtL p q g ks ep v (hOf (zK vy) HL) Qm) (some ⟨go,0,none⟩) co OL (some ⟨gl,0,none⟩) cl (W.map Prod.fst) none 0 (some ⟨gs,0,none⟩) cs (W.map (swW ep)) v 0 (fun i=>dqL q (frP seed ep i) (F+m)) hp hq hg (vO hp) (tL hp) Om hcs.set hep hal hab
  (by rw[hHl,hTl]) (by rw[← hHL];exact kW.hs) Om Om hE.d Om hVt (by rw[yS];omega) (by rw[yS];omega) Dt (by rw[yS,hNl2];omega) hOl hOk Om hE.sn hE.wy hE.wb
 rw[hTl,hSl,hOl,yS,hNl2,decide_eq_false hne] at h;exact h
theorem aeW (vv:Nat) (hcs:tY p q g a (F:Int) (m:Int) ks) (hp:p<ze) (hq:q<ze) (hg:g<ze) (hep:ep<18446744073709551616) (hal:ah.length=32) (hab:∀ b∈ah,b<256) (hv:v<1000) (h3F:3*F+1≤ks.length) (hn:ks.length - F=n) (hQm:(ks.length+F) / 2+1=Qm)
  (kW:tz p q g a F m ks ep (frR seed ep) n W) (hHL:(W.map fun x=>ddH ep x.1.1)=HL) (hvv:0<vv) (hvQ:vv+1=Qm) :
  Fn Tryz.prog 25 [stV p q g (exN p g a) (F:Int) (m:Int) (.slice pt ks.length c),.agg (byC ah).toArray,.agg (bkC ep ah ep (AQ gh n ch) (.slice (some ⟨gv,44,none⟩) vv cv) (AQ go m co)).toArray,evV (AQ gl n cl) (.slice none 0 0) (AQ gs n cs)]
   (fun w=>RdF z7 (.slice pt ks.length c) (csN p g a ks) w∧RdF (ddC ep) (AQ gl n cl) (W.map Prod.fst) w∧RdF byC (AQ gh n ch) HL w∧RdF vtC (.slice (some ⟨gv,44,none⟩) vv cv) ((vtL p q g ks ep v (hOf (zK vy) HL) Qm).drop 1) w) (Is (.int .i64 10)):=by
 have hNl2:=yL p g a ks;have hk7:=hcs.len;have hWl:=kW.len;have hTl:(W.map Prod.fst).length=n:=by rw[List.length_map,hWl]
 have hSl:(W.map (swW ep)).length=n:=by rw[List.length_map,hWl]
 have hHl:HL.length=n:=by rw[← hHL,List.length_map,hWl]
 have hE:=sq hcs hp hq kW Om;have hVt:=pv hcs hq (ep:=ep) (v:=v) (n:=Qm) (S:=hOf (zK vy) HL) hep hv (zJ _ _) (yY _ _) Om;have hVt2:=hVt.tail;have hVl2:((vtL p q g ks ep v (hOf (zK vy) HL) Qm).drop 1).length=vv:=by rw[List.length_drop,yS];omega
 have h:=e8 p q g (exN p g a) F m pt c (csN p g a ks) ep ah (some ⟨gh,0,none⟩) ch HL (some ⟨gv,44,none⟩) cv ((vtL p q g ks ep v (hOf (zK vy) HL) Qm).drop 1) (some ⟨go,0,none⟩) co (vaL p q (exN p g a) m ep HL n (fun i=>dqL q (frP seed ep i) (F+m))) (some ⟨gl,0,none⟩) cl (W.map Prod.fst) none 0 (some ⟨gs,0,none⟩) cs (W.map (swW ep)) v 1 hp hq hg (vO hp) (tL hp) Om hcs.set hep hal hab
  (by rw[hHl,hTl]) (by rw[← hHL];exact kW.hs) Om Om hE.d Om hVt2 Om Om Dt (by rw[hVl2,hNl2];omega) (ug _ _ _ _ _ _ _ _)
 rw[hTl,hSl,hVl2,ug,hNl2] at h;exact h
theorem afG (hm0:0<F+m) (hcs:tY p q g a (F:Int) (m:Int) ks) (hp:p<ze) (hq:q<ze) (hg:g<ze) (hep:ep<18446744073709551616) (hal:ah.length=32) (hab:∀ b∈ah,b<256) (hv:v<1000) (h3F:3*F+1≤ks.length) (hn:ks.length - F=n) (hQm:(ks.length+F) / 2+1=Qm)
  (kW:tz p q g a F m ks ep (frR seed ep) n W) (hHL:(W.map fun x=>ddH ep x.1.1)=HL) :
  Fn Tryz.prog 25 [stV p q g (exN p g a) (F:Int) (m:Int) (.slice pt ks.length c),.agg (byC ah).toArray,.agg (bkC ep ah ep (AQ gh n ch) (AQ gv Qm cv) (AQ go m co)).toArray,evV (AQ gl n cl) (.slice none 0 0) (.slice none 0 0)]
   (fun w=>RdF z7 (.slice pt ks.length c) (csN p g a ks) w∧EvR ep (some ⟨gl,0,none⟩) cl (W.map Prod.fst) none 0 [] none 0 [] w∧RdF byC (AQ gh n ch) HL w∧RdF vtC (AQ gv Qm cv) (vtL p q g ks ep v (hOf (zK vy) HL) Qm) w∧uX w) (Is (.int .i64 7)):=by
 have hNl2:=yL p g a ks;have hk7:=hcs.len;have hWl:=kW.len;have hTl:(W.map Prod.fst).length=n:=by rw[List.length_map,hWl]
 have hSl:(W.map (swW ep)).length=n:=by rw[List.length_map,hWl]
 have hHl:HL.length=n:=by rw[← hHL,List.length_map,hWl]
 have hE:=sq hcs hp hq kW Om;have hVt:=pv hcs hq (ep:=ep) (v:=v) (n:=Qm) (S:=hOf (zK vy) HL) hep hv (zJ _ _) (yY _ _) Om
 have h:=bf p q g (exN p g a) F m pt c (csN p g a ks) ep ah (some ⟨gh,0,none⟩) ch HL (some ⟨gv,0,none⟩) cv (vtL p q g ks ep v (hOf (zK vy) HL) Qm) (some ⟨go,0,none⟩) co (vaL p q (exN p g a) m ep HL n (fun i=>dqL q (frP seed ep i) (F+m))) (some ⟨gl,0,none⟩) cl (W.map Prod.fst) none 0 none 0 [] v 0 (fun i=>dqL q (frP seed ep i) (F+m)) hp hq hg (vO hp) (tL hp) Om hcs.set hep hal hab
  (by rw[hHl,hTl]) (by rw[← hHL];exact kW.hs) Om Om hE.d Om hVt (by rw[yS];omega) (by rw[yS];omega) Dt (by rw[yS,hNl2];omega) (ug _ _ _ _ _ _ _ _) (Nat.zero_le _) (fun x hx=>by cases hx) (fun i y hy=>{ hE.wy i y hy with sh:=fun x hx=>by cases hx }) (fun i y hy=>by
   unfold wB;rw[List.any_nil,Bool.false_or];exact decide_eq_false (by show ¬ F+m≤0;omega))
 rw[hTl,ug,yS,hNl2] at h;exact h
end
end Sx
end
end Go.Proofs.YtiaibpcaloigkaaGreatDoor
