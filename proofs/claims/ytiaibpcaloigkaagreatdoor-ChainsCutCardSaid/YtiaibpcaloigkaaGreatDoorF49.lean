/- Part 49 of the proof. -/
import Derived.Test.YtiaibpcaloigkaaGreatDoorF47
set_option linter.unusedSimpArgs false
set_option linter.unusedVariables false
namespace Go.Proofs.YtiaibpcaloigkaaGreatDoor
section
open Go Go.RowKit Go.BigFrame
namespace Sx
attribute [local irreducible] DQ WC WO WT WX yX ddH gnH hOf voH vtS wd
section
variable (p q g a F m:Nat) (ks:LP) (pt:Option Addr) (c ep:Nat) (ah:LN) (seed v n Qm:Nat) (HL:List (List Nat)) (W:List ((Dd × Dk) × Nw)) (gh ch gv cv go gl cl gs cs:Nat)
theorem afT (hcs:sQ p q g a (F:Int) (m:Int) ks) (hp:p<ze) (hq:q<ze) (hg:g<ze) (hep:ep<18446744073709551616) (hal:ah.length=32) (hab:∀ b∈ah,b<256) (hv:v<1000) (h3F:3*F+1≤ks.length) (hn:ks.length - F=n) (hQm:(ks.length+F) / 2+1=Qm)
  (kW:tD p q g a F m ks ep (frR seed ep) n W) (hHL:(W.map fun x=>ddH ep x.1.1)=HL) :
  Fn Tryz.prog 25 [stV p q g (exN p g a) (F:Int) (m:Int) (.slice pt ks.length c),.agg (byC ah).toArray,.agg (bkC ep ah ep (AQ gh n ch) (AQ gv Qm cv) (AQ go m m)).toArray,evV (AQ gl n cl) (.slice none 0 0) (AQ gs n cs)]
   (fun w=>RdF z8 (.slice pt ks.length c) (csN p g a ks) w∧EvR ep (some ⟨gl,0,none⟩) cl (W.map Prod.fst) none 0 [] (some ⟨gs,0,none⟩) cs (W.map (swW ep)) w∧RdF byC (AQ gh n ch) HL w∧RdF vtC (AQ gv Qm cv) (vtL p q g ks ep v (hOf (zO tm) HL) Qm) w∧RdF byC (AQ go m m) (vaL p q (exN p g a) m ep HL n (fun i=>dqL q (frP seed ep i) (F+m))) w∧tc w) (Is (.int .i64 0)):=by
 have hNl2:=yU p g a ks;have hk7:=hcs.len;have hWl:=kW.len;have hTl:(W.map Prod.fst).length=n:=by rw[List.length_map,hWl]
 have hSl:(W.map (swW ep)).length=n:=by rw[List.length_map,hWl]
 have hHl:HL.length=n:=by rw[← hHL,List.length_map,hWl]
 have hE:=kO hcs hp hq kW Om;have hVt:=aci hcs hq (ep:=ep) (v:=v) (n:=Qm) (S:=hOf (zO tm) HL) hep hv (zJ _ _) (vx _ _) Om
 have h:=acK p q g (exN p g a) F m pt c (csN p g a ks) ep ah (some ⟨gh,0,none⟩) ch HL (some ⟨gv,0,none⟩) cv (vtL p q g ks ep v (hOf (zO tm) HL) Qm) (some ⟨go,0,none⟩) m (vaL p q (exN p g a) m ep HL n (fun i=>dqL q (frP seed ep i) (F+m))) (some ⟨gl,0,none⟩) cl (W.map Prod.fst) none 0 (some ⟨gs,0,none⟩) cs (W.map (swW ep)) v 0 (fun i=>dqL q (frP seed ep i) (F+m)) hp hq hg (uw hp) (rF hp) Om hcs.set hep hal hab
  (by rw[hHl,hTl]) (by rw[← hHL];exact kW.hs) Om Om hE.d Om hVt (by rw[tv];omega) (by rw[tv];omega) Dtt (by rw[tv,hNl2];omega) (tE _ _ _ _ _ _ _ _) mj Om hE.sn hE.wy hE.wb
 rw[hTl,hSl,tE,tv,hNl2,decide_eq_true rfl] at h;exact h
end
end Sx
end
end Go.Proofs.YtiaibpcaloigkaaGreatDoor
