/- Part 30 of the proof. -/
import Derived.Test.YtiaibpcaloigkaaGreatDoorG27
import Derived.Test.YtiaibpcaloigkaaGreatDoorG29
set_option linter.unusedSimpArgs false
set_option linter.unusedVariables false
set_option maxHeartbeats 8000000
namespace Go.Proofs.YtiaibpcaloigkaaGreatDoor
section
open Go Go.RowKit Go.BigFrame
namespace Sx
attribute [local irreducible] DQ WC WO WX wd
theorem aay (n:Nat) (hn:n<4611686018427387904):Fn Tryz.prog 231 [.int .i64 (n:Int)] Tr (Is (.int .i64 ((n+1:Nat):Int))):=by
 have ha:IntKind.i64.wrap ((n:Int)+1)=((n+1:Nat):Int):=zl Om Om Om;refine Fn.enter Tryz.func231 rfl rfl rfl ?_;intro w hw
 repeat (first|refine Tj ?_|intro _|refine WO.does (zi rfl rfl ha) ?_|refine Tc ?_|exact Tz)
abbrev abv:List Value:=[.int .i64 7,.func (.func 231) #[] #[]]
theorem adw:Fn Tryz.prog 188 [] Tr (Is (.agg abv.toArray)):=by
 refine Fn.enter Tryz.func188 rfl rfl rfl ?_;intro w hw
 repeat (first|refine Tk ?_|intro _|exact Tz)
section
variable (p q g h:Nat)
theorem fT (l:LN) (pz:Option Addr) (c i gS gG gP:Nat) (hl:∀ a∈l,a<ze) (hn:l.length≤1099511627776) (hq:q<ze) (hb1:uz q l=true) (hi:i+1<q) (hi2:i<1000) :
  Fn Tryz.prog 232 ([.int .i64 (i:Int)]++[pt gG,pt gP,pt gS]) (fun w=>Seg w gG 0 (yI p q g h)∧Seg w gP 0 [.slice pz l.length c]∧Seg w gS 0 abv∧RdF zc (.slice pz l.length c) l w) (Is (.tuple #[zk (shN q l i),.int .i64 0])):=by
 have h1:=aay i Om;have h2:=jK p q g h (i+1) Om hq;rw[ci q (i+1) Om,Nat.mod_eq_of_lt hi] at h2;have h3:=mg p q g h l pz c (i+1) hl hn hq (Nat.lt_trans hi hq) hb1 hi;rw[show ye l (i+1)%q=shN q l i from rfl] at h3;generalize shN q l i=V at *;refine Fn.enter Tryz.func232 rfl rfl rfl ?_;intro w hw;obtain⟨wG,wP,wS,wL⟩:=hw
 repeat (first|refine Tk ?_|intro _|exact Tz)
 refine WC.adraw 11 (k:=?_)
 iterate 11 (first|refine Da ?_|refine DQ.does (fun s _=>zn (hs:=wG) (hle:=Nat.le_refl _) (vs:=yI p q g h)) Dp.const ?_|refine DQ.does (fun s _=>zm (hs:=wP) (hle:=Nat.le_refl _)) Dp.const ?_|refine DQ.does (fun s _=>zm (hs:=wS) (hle:=Nat.zero_le _)) Dp.const ?_|refine DQ.acallV (hc:=h1) (k:=?_)|refine DQ.acall (hc:=h2) (k:=?_)|refine DQ.acallM (hc:=h3) (hR:=fun w hm=>wL.mod hm.mod) (k:=?_)|refine Dc ?_)
 refine DQ.anil (k:=?_);intro sx _
 repeat (first|refine Tk ?_|intro _|exact Tz)
 done
end
theorem acr {f:Nat} [Cal Tryz.prog f] (caps:LV) (V:Nat→Nat) (m:Nat) (R:World→Prop) (hst:zX R) (hm:m≤100)
  (hf:∀ i,i<m→Fn Tryz.prog f ([.int .i64 (i:Int)]++caps) R (Is (.tuple #[zk (V i),.int .i64 0]))) :
  Fn Tryz.prog 208 [.int .i64 (m:Int),.func (.func f) #[] caps.toArray] R
   (Ex (fun s=>.tuple #[AQ (s 0) m m,.int .i64 0]) (fun s=>[⟨s 0,24,((List.range m).map V).flatMap zc⟩]) (fun _=>True)):=by
 refine Fn.enter Tryz.func208 rfl rfl rfl ?_;intro w hw
 repeat (first|refine Tj ?_|intro _|(refine WO.makes (yp (l:=0) (c:=m) rfl rfl Om Om Om) ?_;intro g)|refine Tc ?_|exact Tz)
 refine WC.loopI (σ:=Nat) (fun i=>i≤m) (fun i=>[(1,.func (.func f) #[] caps.toArray),(5,.int .i64 0),(6,AQ g i m),(12,.int .i64 (m:Int)),(13,.int .i64 (i:Int))]) (fun i=>[⟨g,24,((List.range i).map V).flatMap zc++mkz (m - i) (zc 0)⟩]) (fun i=>m - i) 0 (fun i hi=>?_) (Nat.zero_le _)
 try dsimp only at hi ⊢
 by_cases hlt:i<m
 ·have hadd2:IntKind.i64.wrap ((i:Int)+1)=((i+1:Nat):Int):=zl Om Om Om;have hcall:=hf i hlt;have hx:((List.range m).map V)[i]?=some (V i):=by simp[hlt]
  have htk:∀ j,j≤m→((List.range m).map V).take j=(List.range j).map V:=fun j hj=>by rw[← List.map_take,List.take_range,Nat.min_eq_left hj]
  have hov:=mj (f:=zc) (z:=zc 0) (m:=m - i) zU rfl hx Om;rw[htk i Om,htk (i+1) Om,show m - i - 1=m - (i+1) by omega] at hov;have hle:i*(zc 0).length+(zc (V i)).length≤(((List.range i).map V).flatMap zc++mkz (m - i) (zc 0)).length:=by
   rw[List.length_append,zF zU,zV,List.length_map,List.length_range];show i*4+4≤i*4+(m - i)*4;have:1*4≤(m - i)*4:=Nat.mul_le_mul_right _ Om;omega
  repeat (first|refine Tk ?_|intro _|exact Tz)
  refine WC.dT rfl Om ?_
  repeat (first|refine Tj ?_|intro _|refine WO.acallV (hc:=hcall) (hR:=fun w' hm=>hst _ _ hw hm.mod.below) (k:=?_)|refine Tc ?_|exact Tz)
  repeat (first|refine Tj ?_|intro _|(refine WO.makes (zh (t:=46) (cs:=zc (V i)) rfl Dtt rfl) ?_;intro g2)|refine WO.both (rj (s:=undef) (z:=zc 0) rfl rfl (Rds.own (m:=4) Hs.here rfl) rfl Om rfl (by repeat (first|exact Rp.here|apply Rp.there)) hov hle rfl Dtt) ?_|refine WO.does (zi rfl rfl hadd2) ?_|refine Tc ?_|exact Tz)
  exact WX.metI (i+1) (hs:=⟨by show i+1≤m;omega,by show m - (i+1)<m - i;omega⟩)
 ·have hi2:i=m:=by omega
  subst hi2;rw[Nat.sub_self,show mkz 0 (zc 0)=[] from rfl,List.append_nil]
  repeat (first|refine Tk ?_|intro _|exact Tz)
  refine WC.dF rfl Om ?_
  repeat (first|refine Tk ?_|intro _|exact Tz)
  exact WX.ret2 rfl Rv.t Rv.t [⟨g,24,((List.range i).map V).flatMap zc⟩] (Lle.c Lle.nil) ⟨fun _=>g,rfl,rfl,trivial⟩
section
variable (p q g h:Nat) (l:LN) (pz:Option Addr) (c m:Nat)
theorem aaz (hl:∀ a∈l,a<ze) (hn:l.length≤1099511627776) (hq:q<ze) (hb1:uz q l=true) (h1:1≤m) (hm:m≤7) (hmq:m<q) :
  Fn Tryz.prog 189 [.agg abv.toArray,vV p q g h,.slice pz l.length c,.int .i64 (m:Int)] (RdF zc (.slice pz l.length c) l)
   (Ex (fun s=>.tuple #[AQ (s 0) m m,.int .i64 0]) (fun s=>[⟨s 0,24,(shL q l m).flatMap zc⟩]) (fun _=>True)):=by
 have hC:=fun gS gG gP=>acr (f:=232) [pt gG,pt gP,pt gS] (shN q l) m (fun w=>Seg w gG 0 (yI p q g h)∧Seg w gP 0 [.slice pz l.length c]∧Seg w gS 0 abv∧RdF zc (.slice pz l.length c) l w)
  (fun w w' ⟨a,b,d,e⟩ hb=>⟨zX.seg w w' a hb,zX.seg w w' b hb,zX.seg w w' d hb,e.mod (.of_below hb _)⟩) Om (fun i hi=>fT p q g h l pz c i gS gG gP hl hn hq hb1 Om Om)
 refine Fn.enter Tryz.func189 rfl rfl rfl ?_;intro w hw
 repeat (first|refine Tj ?_|intro _|refine WO.does (z7 rfl rfl Om) ?_|refine WO.does (zH rfl rfl) ?_|refine WO.does (yn rfl rfl Om) ?_|refine Tc ?_|exact Tz)
 repeat (first|refine Tj ?_|intro _|refine WO.does (zH rfl rfl) ?_|refine WO.acallX (hc:=hC _ _ _) (hR:=fun w1 hm=>⟨Hs.sg hm,Hs.sg hm,Hs.sg hm,hw.mod hm.mod⟩) (k:=fun s _=>?_)|refine Tc ?_|exact Tz)
 generalize s 0=g0
 repeat (first|refine Tk ?_|intro _|exact Tz)
 exact WX.ret2 rfl Rv.t Rv.t [⟨g0,24,(shL q l m).flatMap zc⟩] (Lle.c Lle.nil) ⟨fun _=>g0,rfl,rfl,trivial⟩
theorem acj (hl:∀ a∈l,a<ze) (hn:l.length≤1099511627776) (hq:q<ze) (hb1:uz q l=true) (h1:1≤m) (hm:m≤7) (hmq:m<q) :
  Fn Tryz.prog 144 [vV p q g h,.slice pz l.length c,.int .i64 (m:Int)] (RdF zc (.slice pz l.length c) l)
   (Ex (fun s=>.tuple #[AQ (s 0) m m,.int .i64 0]) (fun s=>[⟨s 0,24,(shL q l m).flatMap zc⟩]) (fun _=>True)):=by
 have hV:=aaz p q g h l pz c m hl hn hq hb1 h1 hm hmq;have hN:=adw;refine Fn.enter Tryz.func144 rfl rfl rfl ?_;intro w hw
 repeat (first|refine Tk ?_|intro _|exact Tz)
 refine WC.adraw 9 (k:=?_);refine DQ.acall (hc:=hN) (k:=?_)
 iterate 3 (refine DQ.auto (k:=?_))
 refine DQ.callsE (fs:=fun _=>[]) (cs:=fun _=>[]) (R:=fun _=>RdF zc (.slice pz l.length c) l) (vf:=fun _ x=>.tuple #[AQ (x 0) m m,.int .i64 0]) (Nf:=fun _ x=>[⟨x 0,24,(shL q l m).flatMap zc⟩]) (S:=fun _ _=>True) (fun _=>[]) (fun _=>.nil)
  (fun _=>⟨fun _=>0,trivial⟩) (fun _ _=>hV) (fun _=>rfl) (fun _=>rfl) (fun _=>by simp) (fun _ _ w hm=>hw.mod hm.mod) Dp.const Dp.const Dp.const ?_
 try dsimp only[List.map_cons,List.map_nil,List.cons_append,List.nil_append]
 iterate 4 (refine DQ.auto (k:=?_))
 refine DQ.anil (k:=?_);intro sx _;generalize sx 4 0=g0
 repeat (first|refine Tk ?_|intro _|exact Tz)
 exact WX.ret2 rfl Rv.t Rv.t [⟨g0,24,(shL q l m).flatMap zc⟩] (Lle.c Lle.nil) ⟨fun _=>g0,rfl,rfl,trivial⟩
end
section
variable (p q g h:Nat) (f sec:Int) (ns:Value)
theorem acH (l:LN) (pz:Option Addr) (c:Nat) (hl:∀ a∈l,a<ze) (hn:l.length≤1099511627776) (hq:q<ze) (hf:0≤f∧0≤sec∧f+sec≤5) :
  Fn Tryz.prog 142 [stV p q g h f sec ns,.slice pz l.length c] (RdF zc (.slice pz l.length c) l) (Is (.bool (decide ((l.length:Int)=f+sec) && uz q l))):=by
 have hadd:IntKind.i64.wrap (f+sec)=f+sec:=i64_in Om Om;cases hb:uz q l with
 | true =>
  have hA:=mg p q g h l pz c 0 hl hn hq (sk Dtt) hb (by have:=(vW hb).1;omega);generalize ye l 0%q=V at *;rw[Bool.and_true];refine Fn.enter Tryz.func142 rfl rfl rfl ?_;intro w hw
  repeat (first|refine Tj ?_|intro _|refine WO.acallR (hc:=hA) (hR:=fun w1 hm=>hw.mod hm.mod) (k:=?_)|refine WO.does (zi rfl rfl hadd) ?_|refine Tc ?_|exact Tz)
  by_cases he:(l.length:Int)=f+sec
  ·have d:decide ((l.length:Int)=f+sec)=true:=decide_eq_true he;rw[d]
   repeat (first|refine Tk ?_|intro _|exact Tz)
  ·have d:decide ((l.length:Int)=f+sec)=false:=decide_eq_false he;rw[d]
   repeat (first|refine Tk ?_|intro _|exact Tz)
 | false =>
  have hA:=acC p q g h l pz c 0 hl hn hq (sk Dtt) (by rw[hb,Bool.false_and]);rw[Bool.and_false];refine Fn.enter Tryz.func142 rfl rfl rfl ?_;intro w hw
  repeat (first|refine Tj ?_|intro _|refine WO.acallR (hc:=hA) (hR:=fun w1 hm=>hw.mod hm.mod) (k:=?_)|refine WO.does (zi rfl rfl hadd) ?_|refine Tc ?_|exact Tz)
  by_cases he:(l.length:Int)=f+sec
  ·have d:decide ((l.length:Int)=f+sec)=true:=decide_eq_true he;rw[d]
   repeat (first|refine Tk ?_|intro _|exact Tz)
  ·have d:decide ((l.length:Int)=f+sec)=false:=decide_eq_false he;rw[d]
   repeat (first|refine Tk ?_|intro _|exact Tz)
end
section
open Kp
variable {P:Program} {w0:World} {gs:LN} {n:Nat} {fl:LN} {Q:Exit→Act→World→Prop} {ops:List Oper} {L0:List Ent}
variable {tail rest:List Oper} {i:Nat} {C:zT→Prop} {K:zT→List (Nat × Value)} {N:zT→List (Nat × Ent)}
variable {d:Nat} {op:Op} {ty:TypeId} {pos:String} {after:Array Edge} {gd:Option (Nat × Bool)}
theorem DQ.acallS {f:FuncId} [Cal P f] {xs:Array Operand} {ats:Array TypeId} {vs:LV} {Rq:World→Prop} {t m:Nat} {cs:LV} (hc:Fn P f vs Rq (az t m cs)) (hR:∀ w,Rq w) (ha:∀ s,evs (K s) xs.toList=some vs:=by (intro s;rfl))
  (k:DQ P w0 gs n fl Q ops L0 tail (i+1) rest (fun s=>C s∧True) (fun s=>(d,AQ (s i 0) m m)::K s) (fun s=>(i,⟨s i 0,t,cs⟩)::N s))
  (hfl:fl.contains i=false:=by rfl) (hw:∀ s,wk ops (K s) gd=some true:=by intro _;rfl) (hd:Nat.blt d n=true:=by rfl) :
  DQ P w0 gs n fl Q ops L0 tail i (⟨some d,.call { callee:=.value (.func f),args:=xs,argTypes:=ats },ty,pos,after,gd⟩::rest) C K N :=
 DQ.callsE (fs:=fun _=>[]) (cs:=fun _=>[]) (R:=fun _=>Rq) (vf:=fun _ x=>AQ (x 0) m m) (Nf:=fun _ x=>[⟨x 0,t,cs⟩]) (S:=fun _ _=>True) (fun _=>[]) (fun _=>.nil)
  (fun _=>⟨fun _=>0,trivial⟩) (fun _ _=>Fn.weak hc (fun _ h=>h) (fun v N ⟨g,e1,e2⟩=>⟨fun _=>g,e1,e2,trivial⟩)) (fun _=>rfl) ha (fun _=>by simp) (fun _ _ w _=>hR w) Dp.const Dp.const Dp.const k hfl hw hd
end
section
variable (p q g h:Nat)
theorem abX (x:Nat) (H:LN) (hx:x<ze) (hq:q<ze) (h0:0<q) (hH:∀ b∈H,b<256) (hl:H.length=32):Fn Tryz.prog 145 [vV p q g h,zk x,.agg (byC H).toArray] Tr (Is (zk (yw q x H))):=by
 have hP:=yQ [] x 0 none Dtt;rw[List.nil_append] at hP;have hbl:(be 32 x).length=32:=zj _ _;rw[hbl] at hP;have hN:=fun g3 g5 gR=>sU q mu [AQ g3 32 32,AQ g5 32 32] [be 32 x,H] gR 0 2 hq h0 (by
  intro X hX;simp only[List.mem_cons,List.not_mem_nil,or_false] at hX
  rcases hX with rfl|rfl
  ·exact yZ
  ·exact hH) (by
  simp only[yG,uV,yM,List.flatMap_cons,List.flatMap_nil,List.length_append,zj,yb,List.length_nil,hl];decide) Dtt
 have hlt:nB q (zN mu) [be 32 x,H] < ze:=Nat.lt_trans (Nat.mod_lt _ h0) hq;unfold yw;generalize nB q (zN mu) [be 32 x,H]=R at *;have hbH:(byC H).length=32:=by rw[zd,hl]
 refine Fn.enter Tryz.func145 rfl rfl rfl ?_;intro w hw
 repeat (first|refine Tk ?_|intro _|exact Tz)
 rename_i g3 g4 g5 g6;refine WC.adrawF [9] 11 (k:=?_)
 iterate 3 (refine DQ.auto (k:=?_))
 refine DQ.acallS (hc:=hP) (hR:=fun _=>Rd.nil) (k:=?_);refine DQ.does (v:=fun _=>AQ g5 32 32) (fun s _=>yu rfl) Dp.const ?_;refine DQ.makes (vf:=fun _ g=>AQ g 2 2) (t:=126) (cs:=fun s=>[AQ (s 3 0) 32 32,AQ g5 32 32]) (fun s _=>zh rfl Dtt rfl) Dp.const (by intro s s' h;dsimp only;rw[h]<;>decide +kernel) ?_;refine DQ.callE (v:=fun _=>.tuple #[zk R,.int .i64 0]) (fun s=>[⟨s 5 0,126,[AQ (s 3 0) 32 32,AQ g5 32 32]⟩,⟨s 3 0,5,byC (be 32 x)⟩]) (fun s=>.cons 5 (.head _) Dkk (.cons 3 Mh.a Dkk .nil)) (fun s _=>hN (s 3 0) g5 (s 5 0)) (fun s=>rfl) (fun s hC w hm=>⟨Hs.seg Hs.here hm,z6.cons (by have:=RdP.own0 (g:=s 3 0) (c:=32) (X:=be 32 x) (t:=5) hm (Hs.there Hs.here) Om Dtt;rw[hbl] at this;exact this) (z6.cons (by have:=RdP.own0 (g:=g5) (c:=32) (X:=H) (t:=70) hm Hs.a Om Dtt;rw[hl] at this;exact this) z6.nil)⟩) Dp.const ?_
 repeat (first|refine Da ?_|refine Df ?_)
 refine DQ.anil (k:=?_);intro sx _
 repeat (first|refine Tj ?_|intro _|refine WO.does yO ?_|refine Tc ?_|exact Tz)
 by_cases hR:R=0
 ·have d:decide (R=0)=true:=decide_eq_true hR;rw[if_pos hR,d]
  repeat (first|refine Tj ?_|intro _|refine WO.does (zz (cs:=zc 1) rfl rfl Kr) ?_|refine Tc ?_|exact Tz)
 ·have d:decide (R=0)=false:=decide_eq_false hR;rw[if_neg hR,d]
  repeat (first|refine Tk ?_|intro _|exact Tz)
end
theorem RdF.get {α:Type} {f:α→List Value} {pz:Option Addr} {n c:Nat} {xs:List α} {w:World} (h:RdF f (.slice pz n c) xs w) {i:Nat} {x:α} (hx:xs[i]?=some x):∃ b o,pz=some ⟨b,o,none⟩∧n=xs.length∧Seg w b o (xs.flatMap f):=by
 obtain⟨p,c',e,h⟩:=h;cases e
 rcases h with ⟨_,rfl⟩|⟨b,o,rfl,hs⟩
 ·simp at hx
 ·exact⟨b,o,rfl,rfl,hs⟩
section
variable (p q g h:Nat) (f sec:Int) (ns:Value)
theorem aM (x key:Nat) (hx:x<ze) (hk:key<ze) (hp:p<ze) (hq:q<ze) (hg:g<ze) :
  Fn Tryz.prog 143 [stV p q g h f sec ns,zk x,zk key] Tr (Is (.bool (adL p q g x key))):=by
 have hE:=vQ p q g h g x hg hx hp;simp only[rE] at hE;have hEl:okV (yB p g) (g ^ x%p)<ze:=ub (n:=x) (a:=g) hp;have hS:adL p q g x key=(uz q [x] && yB p g && decide (okV (yB p g) (g ^ x%p)=key)):=by
  rw[aex];congr 2;unfold zP uz;simp
 have d1:=afx (yB p g);generalize okV (yB p g) (g ^ x%p)=y at *;generalize okE (yB p g)=e at *;rw[hS,← d1];clear hS;cases hb:uz q [x] with
 | true =>
  have hA:=fun b=>mg p q g h [x] (some ⟨b,0,none⟩) 1 0 (by simpa using hx) (by show 1≤1099511627776;omega) hq (sk Dtt) hb (by have:=(vW hb).1;omega);generalize ye [x] 0%q=V at *;rw[Bool.true_and];refine Fn.enter Tryz.func143 rfl rfl rfl ?_;intro w hw
  repeat (first|refine Tj ?_|intro _|(refine WO.makes (zh (cs:=zc x) rfl Dtt rfl) ?_;intro _)|refine WO.acallR (hc:=hA _) (hR:=fun w hm=>RdF.seg (f:=zc) (xs:=[x]) (r:=[]) (Hs.sg hm)) (k:=?_)|refine WO.acall (hc:=hE) (k:=?_)|refine WO.does (yO (ha:=hEl) (hb:=hk)) ?_|refine Tc ?_|exact Tz)
  by_cases he:e=0
  ·have d:decide (e=0)=true:=decide_eq_true he;rw[d,Bool.true_and]
   repeat (first|refine Tj ?_|intro _|refine WO.does (yO (ha:=hEl) (hb:=hk)) ?_|refine Tc ?_|exact Tz)
  ·have d:decide (e=0)=false:=decide_eq_false he;rw[d,Bool.false_and]
   repeat (first|refine Tk ?_|intro _|exact Tz)
 | false =>
  have hA:=fun b=>acC p q g h [x] (some ⟨b,0,none⟩) 1 0 (by simpa using hx) (by show 1≤1099511627776;omega) hq (sk Dtt) (by rw[hb,Bool.false_and]);rw[Bool.false_and,Bool.false_and];refine Fn.enter Tryz.func143 rfl rfl rfl ?_;intro w hw
  repeat (first|refine Tj ?_|intro _|(refine WO.makes (zh (cs:=zc x) rfl Dtt rfl) ?_;intro _)|refine WO.acallR (hc:=hA _) (hR:=fun w hm=>RdF.seg (f:=zc) (xs:=[x]) (r:=[]) (Hs.sg hm)) (k:=?_)|refine WO.acall (hc:=hE) (k:=?_)|refine Tc ?_|exact Tz)
  done
end
def lgV (g n:Nat):Nat→Value
 | 0=>.slice none 0 0
 | _+1=>AQ g n n
def lgL (g:Nat) (B:LN):Nat→List Ent
 | 0=>[]
 | _+1=>[⟨g,5,byC B⟩]
theorem du (l:LN) (pz:Option Addr) (c:Nat) (hl:l≠[]) (hn:l.length≤8589934592) :
  Fn Tryz.prog 71 [.slice pz l.length c] (RdF zc (.slice pz l.length c) l) (az 5 (l.flatMap (be 32)).length (byC (l.flatMap (be 32)))):=by
 refine Fn.enter Tryz.func71 rfl rfl rfl ?_;intro w hw
 repeat (first|refine Tk ?_|intro _|exact Tz)
 refine WC.loopI (σ:=Nat × Nat) (fun s=>s.1≤l.length) (fun s=>[(2,lgV s.2 ((l.take s.1).flatMap (be 32)).length s.1),(5,.slice pz l.length c),(6,.int .i64 (l.length:Int)),(7,.int .i64 (s.1:Int))])
  (fun s=>lgL s.2 ((l.take s.1).flatMap (be 32)) s.1) (fun s=>l.length - s.1) (0,0) (fun s hi=>?_) (Nat.zero_le _)
 obtain⟨i,g⟩:=s
 try dsimp only at hi ⊢
 by_cases hlt:i<l.length
 ·obtain⟨x,hx⟩ : ∃ x,l[i]?=some x:=⟨_,List.getElem?_eq_getElem hlt⟩;obtain⟨b,o,rfl,_,hs⟩:=hw.get hx;have hadd2:IntKind.i64.wrap ((i:Int)+1)=((i+1:Nat):Int):=zl Om Om Om;have hcx:cut (l.flatMap zc) (o+i*4 - o) 4=zc x:=by rw[Nat.add_sub_cancel_left];exact zL zU hx
  have hst:(l.take i).flatMap (be 32)++be 32 x=(l.take (i+1)).flatMap (be 32):=by rw[List.take_add_one,hx];simp
  have hBl:((l.take i).flatMap (be 32)).length≤549755813888:=by rw[sr,List.length_take];omega
  generalize hB2:(l.take (i+1)).flatMap (be 32)=B2 at *
  rcases i with _|i
  ·have hP:=yQ [] x 0 none Dtt;rw[show []++be 32 x=B2 by rw[← hst];rfl] at hP
   repeat (first|refine Tk ?_|intro _|exact Tz)
   refine WC.dT rfl Om ?_
   repeat (first|refine Tj ?_|intro _|refine WO.does (zb (o':=o+0*4) rfl rfl hlt rfl) ?_|refine WO.does (zn (vs:=zc x) (hs:=hs) (hle:=Nat.le_add_right _ _) (hc:=hcx)) ?_|refine WO.acallN (hc:=hP) (hR:=fun _ _=>Rd.nil) (k:=fun g'=>?_)|refine Tc ?_|exact Tz)
   repeat (first|refine Tj ?_|intro _|refine WO.does (zi rfl rfl hadd2) ?_|refine Tc ?_|exact Tz)
   subst hB2;exact WX.metI (1,g') (hs:=⟨by show 0+1≤l.length;omega,by show l.length - (0+1)<l.length - 0;omega⟩)
  ·have hP:=yQ ((l.take (i+1)).flatMap (be 32)) x ((l.take (i+1)).flatMap (be 32)).length (some ⟨g,0,none⟩) hBl;rw[hst] at hP;generalize (l.take (i+1)).flatMap (be 32)=B1 at *
   try dsimp only[lgV,lgL]
   repeat (first|refine Tk ?_|intro _|exact Tz)
   refine WC.dT rfl Om ?_
   repeat (first|refine Tj ?_|intro _|refine WO.does (zb (o':=o+(i+1)*4) rfl rfl hlt rfl) ?_|refine WO.does (zn (vs:=zc x) (hs:=hs) (hle:=Nat.le_add_right _ _) (hc:=hcx)) ?_|refine WO.acallN (hc:=hP) (hR:=fun w1 hm=>Rd.of (Hs.sg hm)) (k:=fun g'=>?_)|refine Tc ?_|exact Tz)
   repeat (first|refine Tj ?_|intro _|refine WO.does (zi rfl rfl hadd2) ?_|refine Tc ?_|exact Tz)
   subst hB2;exact WX.metI (i+1+1,g') (hs:=⟨by show i+1+1≤l.length;omega,by show l.length - (i+1+1)<l.length - (i+1);omega⟩)
 ·have hi2:i=l.length:=by omega
  subst hi2;rw[List.take_length];cases l with
  | nil=>exact absurd rfl hl
  | cons a r =>
   try dsimp only[lgV,lgL,List.length_cons]
   repeat (first|refine Tk ?_|intro _|exact Tz)
   refine WC.dF rfl Om ?_
   repeat (first|refine Tk ?_|intro _|exact Tz)
   exact WX.retN
theorem aZ {d:Nat} (hd:d<256):byC (be 1 d)=[.int .u8 (d:Int)]:=by rw[cT hd];simp[byC]
def agV (g c n:Nat):Nat→Value
 | 0=>.slice none 0 0
 | _+1=>AQ g n c
def agL (g:Nat) (B:LN) (r:LV):Nat→List Ent
 | 0=>[]
 | _+1=>[⟨g,5,byC B++r⟩]
abbrev be2 (k:Nat × Nat):List Nat:=be 32 k.1++be 32 k.2
section
variable {w0:World} {gs:LN} {K:List (Nat × Value)} {L:List Ent}
theorem zB {x y:Operand} {yt ty:TypeId} {a b:Nat} {r:Bool} (hx:ev K x=some (zk a)) (hy:ev K y=some (zk b)) (ha:a<ze) (hb:b<ze) (hr:decide (a=b)=r) :
  Does Tryz.prog w0 gs K L (.binOp .eql 24 x y yt) ty (.bool r):=by
 subst hr;exact yO (hx:=hx) (hy:=hy) (ha:=ha) (hb:=hb)
end
section
variable (p q g h:Nat)
theorem eZ (l:LN) (pz:Option Addr) (c:Nat) (hl:∀ a∈l,a<ze) (hn:l.length≤1099511627776) (hq:q<ze) :
  Fn Tryz.prog 159 [vV p q g h,.slice pz l.length c] (RdF zc (.slice pz l.length c) l) (Is (.bool (l.all fun x=>zP x x q))):=by
 refine Fn.enter Tryz.func159 rfl rfl rfl ?_;intro w hw
 repeat (first|refine Tk ?_|intro _|exact Tz)
 rename_i gG;refine WC.loopI (σ:=Nat) (fun i=>i≤l.length∧∀ j,j<i→∀ x,l[j]?=some x→zP x x q=true) (fun i=>[(2,pt gG),(9,.slice pz l.length c),(10,.int .i64 (l.length:Int)),(11,.int .i64 (i:Int))]) (fun _=>[⟨gG,26,yI p q g h⟩]) (fun i=>l.length - i) 0 (fun i hi=>?_) ⟨Nat.zero_le _,fun j hj=>by omega⟩
 try dsimp only at hi ⊢
 obtain⟨hi,h0⟩:=hi
 by_cases hlt:i<l.length
 ·obtain⟨x,hx⟩ : ∃ x,l[i]?=some x:=⟨_,List.getElem?_eq_getElem hlt⟩;obtain⟨b,o,rfl,_,hs⟩:=hw.get hx;have hadd2:IntKind.i64.wrap ((i:Int)+1)=((i+1:Nat):Int):=zl Om Om Om;have hcx:cut (l.flatMap zc) (o+i*4 - o) 4=zc x:=by rw[Nat.add_sub_cancel_left];exact zL zU hx
  have hxb:=hl x (List.mem_of_getElem? hx);have hA:=mF p q g h x x hxb hxb hq;cases hm:zP x x q with
  | true =>
   rw[hm] at hA
   repeat (first|refine Tk ?_|intro _|exact Tz)
   refine WC.dT rfl Om ?_
   repeat (first|refine Tj ?_|intro _|refine WO.does (zb (o':=o+i*4) rfl rfl hlt rfl) ?_|refine WO.does (zn (vs:=zc x) (hs:=hs) (hle:=Nat.le_add_right _ _) (hc:=hcx)) ?_|refine WO.acall (hc:=hA) (k:=?_)|refine WO.does (zA rfl rfl rfl) ?_|refine WO.does (zi rfl rfl hadd2) ?_|refine Tc ?_|exact Tz)
   refine WX.metI (i+1) (hs:=⟨⟨by show i+1≤l.length;omega,fun j hj y hy=>by
    rcases Nat.lt_or_ge j i with h|h
    ·exact h0 j h y hy
    ·have:j=i:=by omega
     subst this;rw[hx] at hy;cases hy;exact hm⟩,by show l.length - (i+1)<l.length - i;omega⟩)
  | false =>
   rw[hm] at hA;rw[eI hx hm]
   repeat (first|refine Tk ?_|intro _|exact Tz)
   refine WC.dT rfl Om ?_
   repeat (first|refine Tj ?_|intro _|refine WO.does (zb (o':=o+i*4) rfl rfl hlt rfl) ?_|refine WO.does (zn (vs:=zc x) (hs:=hs) (hle:=Nat.le_add_right _ _) (hc:=hcx)) ?_|refine WO.acall (hc:=hA) (k:=?_)|refine WO.does (yR rfl rfl Dtt) ?_|refine Tc ?_|exact Tz)
   done
 ·have hi2:i=l.length:=by omega
  rw[aaO (P:=fun x=>zP x x q) (by rw[← hi2];exact h0)]
  repeat (first|refine Tk ?_|intro _|exact Tz)
  refine WC.dF rfl Om ?_
  repeat (first|refine Tk ?_|intro _|exact Tz)
  done
def eo (q key r:Nat) (H:LN):Nat:=nB q (zN aaT) [be 32 key,be 32 r,H]
theorem jz (key r gG gK gH:Nat) (H:LN) (hq:q<ze) (h0:0<q) (hH:∀ b∈H,b<256) (hl:H.length=32) :
  Fn Tryz.prog 203 ([zk r]++[pt gG,pt gK,pt gH]) (fun w=>Seg w gG 0 (yI p q g h)∧Seg w gK 0 (zc key)∧Seg w gH 0 (byC H)) (Is (zk (eo q key r H))):=by
 have hP:=fun x=>yQ [] x 0 none Dtt;have hbl:∀ x,(be 32 x).length=32:=fun x=>zj _ _;simp only[List.nil_append,hbl] at hP;have hP1:=hP key;have hP2:=hP r;clear hP;have hN:=fun g3 g5 gR=>sU q aaT [AQ g3 32 32,AQ g5 32 32,AQ gH 32 32] [be 32 key,be 32 r,H] gR 0 3 hq h0 (by
  intro X hX;simp only[List.mem_cons,List.not_mem_nil,or_false] at hX
  rcases hX with rfl|rfl|rfl
  ·exact yZ
  ·exact yZ
  ·exact hH) (by
  simp only[yG,uV,yM,List.flatMap_cons,List.flatMap_nil,List.length_append,zj,yb,List.length_nil,hl];decide) Dtt
 rw[show nB q (zN aaT) [be 32 key,be 32 r,H]=eo q key r H from rfl] at hN;generalize eo q key r H=R at *;have hbH:(byC H).length=32:=by rw[zd,hl]
 have hrk:=hbl key;have hrr:=hbl r;clear hbl;refine Fn.enter Tryz.func203 rfl rfl rfl ?_;intro w hw;obtain⟨wG,wK,wH⟩:=hw
 repeat (first|refine Tk ?_|intro _|exact Tz)
 refine WC.adrawF [11] 13 (k:=?_);refine DQ.auto (k:=?_);refine DQ.does (fun s _=>zn (hs:=wG) (hle:=Nat.zero_le _) (vs:=zc q)) Dp.const ?_;refine DQ.does (fun s _=>zn (hs:=wK) (hle:=Nat.le_refl _) (vs:=zc key)) Dp.const ?_;refine DQ.acallS (hc:=hP1) (hR:=fun _=>Rd.nil) (k:=?_);refine DQ.auto (k:=?_);refine DQ.acallS (hc:=hP2) (hR:=fun _=>Rd.nil) (k:=?_);refine DQ.does (v:=fun _=>AQ gH 32 32) (fun s _=>yu rfl) Dp.const ?_;refine DQ.makes (vf:=fun _ g=>AQ g 3 3) (t:=126) (cs:=fun s=>[AQ (s 3 0) 32 32,AQ (s 5 0) 32 32,AQ gH 32 32]) (fun s _=>zh rfl Dtt rfl) Dp.const (by intro s s' h;dsimp only;rw[h,h]<;>decide +kernel) ?_
 refine DQ.callE (v:=fun _=>.tuple #[zk R,.int .i64 0]) (fun s=>[⟨s 7 0,126,[AQ (s 3 0) 32 32,AQ (s 5 0) 32 32,AQ gH 32 32]⟩,⟨s 5 0,5,byC (be 32 r)⟩,⟨s 3 0,5,byC (be 32 key)⟩])
  (fun s=>.cons 7 (.head _) Dkk (.cons 5 Mh.a Dkk (.cons 3 Mh.a Dkk .nil))) (fun s _=>hN (s 3 0) (s 5 0) (s 7 0)) (fun s=>rfl)
  (fun s hC w hm=>⟨Hs.seg Hs.here hm,z6.cons (by have:=RdP.own0 (g:=s 3 0) (c:=32) (X:=be 32 key) (t:=5) hm (Hs.there (Hs.there Hs.here)) Om Dtt;rw[hrk] at this;exact this) (z6.cons (by have:=RdP.own0 (g:=s 5 0) (c:=32) (X:=be 32 r) (t:=5) hm (Hs.there Hs.here) Om Dtt;rw[hrr] at this;exact this)
   (z6.cons ⟨some ⟨gH,0,none⟩,32,by rw[hl],by omega,by decide,.inr ⟨gH,0,rfl,by
    have h1:(byC H)[0]?=some (.int .u8 ((H[0]' Om:Nat):Int)):=lM Om;exact oT ((wH.mod hm.mod Sm) 0 _ h1),wH.mod hm.mod Sm⟩⟩ z6.nil))⟩) Dp.const ?_
 repeat (first|refine Da ?_|refine Df ?_)
 refine DQ.anil (k:=?_);intro sx _
 repeat (first|refine Tk ?_|intro _|exact Tz)
 done
end
theorem adY (l:LN) (pz:Option Addr) (c:Nat) (hn:l.length≤8589934592) :
  Fn Tryz.prog 71 [.slice pz l.length c] (RdF zc (.slice pz l.length c) l) (Ex (fun s=>lgV (s 0) (l.flatMap (be 32)).length l.length) (fun s=>lgL (s 0) (l.flatMap (be 32)) l.length) (fun _=>True)):=by
 by_cases hl:l=[]
 ·subst hl;refine Fn.enter Tryz.func71 rfl rfl rfl ?_;intro w hw
  repeat (first|refine Tk ?_|intro _|exact Tz)
  refine WC.loopI (σ:=Unit) (fun _=>True) (fun _=>[(2,.slice none 0 0),(6,.int .i64 0),(7,.int .i64 0)]) (fun _=>[]) (fun _=>0) () (fun _ _=>?_) trivial
  try dsimp only
  repeat (first|refine Tk ?_|intro _|exact Tz)
  exact WX.ret1 rfl Rv.t [] Lle.nil ⟨fun _=>0,rfl,rfl,trivial⟩
 ·have h:=du l pz c hl hn;obtain⟨k,hk⟩ : ∃ k,l.length=k+1:=⟨l.length - 1,by have:=List.length_pos_iff.2 hl;omega⟩;exact h.weak (fun _ h=>h) (fun v N hv=>by
   obtain⟨g,h1,h2⟩:=hv;refine⟨fun _=>g,?_,?_,trivial⟩
   ·rw[hk];exact h1
   ·rw[hk];exact h2)
end Sx
end
section
open Go Go.RowKit Go.BigFrame
namespace Sx
theorem WO.permA {P:Program} {w0:World} {gs:LN} {n:Nat} {ops rest:List Oper} {Q:Exit→Act→World→Prop} {K:List (Nat × Value)} {L L' : List Ent} (hp:L.Perm L') (k:WO P w0 gs n ops Q K L' rest):WO P w0 gs n ops Q K L rest:=fun a w h1 h2 h3 h4=>k a w h1 h2 h3 (h4.perm hp)
attribute [local irreducible] wd DQ WO WC WX
def lgP (g:Nat):Nat→Option Addr
 | 0=>none
 | _+1=>some ⟨g,0,none⟩
theorem Hs.right {L:List Ent} {g t:Nat} {cs:LV}:∀ {M:List Ent},Hs L g t cs→Hs (M++L) g t cs
 | [],h=>h
 | _::_,h=>.there (Hs.right h)
theorem Hs.left {L:List Ent} {g t:Nat} {cs:LV}:∀ {M:List Ent},Hs M g t cs→Hs (M++L) g t cs:=fun h=>by
 induction h with
 | here=>exact .here
 | there _ ih=>exact .there ih
theorem Vs.lg {ops:List Oper} {i:Nat} {N:List (Nat × Ent)} {E:List Ent} {g n:Nat} {B:LN} (j:Nat) (h:∀ k,n=k+1→(j,(⟨g,5,byC B⟩ : Ent))∈N) (ha:Kp.anc ops i j=true) (hE:Vs ops i N E):Vs ops i N (lgL g B n++E):=by
 cases n with
 | zero=>exact hE
 | succ k=>exact .cons j (h k rfl) ha hE
theorem RdP.lg {w0 w:World} {gs:LN} {L:List Ent} (hm:Mr w0 gs L w) {g n:Nat} {X:LN} (hn:X.length=n*32) (h:∀ k,n=k+1→Hs L g 5 (byC X)) (hc:X.length<9223372036854775808):RdP (.slice (lgP g n) X.length X.length) X w:=by
 cases n with
 | zero =>
  obtain rfl:X=[]:=List.length_eq_zero_iff.1 Om;exact⟨none,0,rfl,Nat.le_refl _,by decide,.inl ⟨rfl,rfl⟩⟩
 | succ k=>exact RdP.own0 (g:=g) (X:=X) (t:=5) hm (h k rfl) (Nat.le_refl _) hc
theorem RdP.ag {w0 w:World} {gs:LN} {L:List Ent} (hm:Mr w0 gs L w) {g n c:Nat} {X:LN} {r:LV} (hn:X.length=n*64) (h:∀ k,n=k+1→Hs L g 5 (byC X++r)) (hle:X.length≤c) (hc:c<9223372036854775808):RdP (.slice (lgP g n) X.length c) X w:=by
 cases n with
 | zero =>
  obtain rfl:X=[]:=List.length_eq_zero_iff.1 Om;exact⟨none,c,rfl,hle,hc,.inl ⟨rfl,rfl⟩⟩
 | succ k=>exact RdP.own (g:=g) (X:=X) (r:=r) (t:=5) hm (h k rfl) hle hc
theorem eJ (l:LN) (pz:Option Addr) (c:Nat) (hn:l.length≤8589934592) :
  Fn Tryz.prog 71 [.slice pz l.length c] (RdF zc (.slice pz l.length c) l) (Ex (fun s=>.slice (lgP (s 0) l.length) (l.flatMap (be 32)).length (l.flatMap (be 32)).length) (fun s=>lgL (s 0) (l.flatMap (be 32)) l.length) (fun _=>True)) :=
 (adY l pz c hn).weak (fun _ h=>h) (fun v N ⟨s,h1,h2,_⟩=>⟨s,by
  rw[h1];cases l with
  | nil=>rfl
  | cons a r=>rfl,h2,trivial⟩)
theorem jr (ep d:Nat) (sC sS:Nat) (pV pY pP:Option Addr) (cV cY cP:Nat) (V Y:LN) (Pr:LP) (hd:d<256) (hVl:V.length≤1000) (hYl:Y.length≤1000) (hPl:Pr.length≤1000) :
  Fn Tryz.prog 31 [dlV ep d (.slice pV V.length cV) (.slice pY Y.length cY) (.slice pP Pr.length cP) sC sS]
   (fun w=>RdF zc (.slice pV V.length cV) V w∧RdF zc (.slice pY Y.length cY) Y w∧RdF pfC (.slice pP Pr.length cP) Pr w) (Is (.agg (byC (yN ep d V Y Pr)).toArray)):=by
 have hLV:=eJ V pV cV Om;have hLY:=eJ Y pY cY Om;have hP0:=nG [] ep 8 0 none Dtt Dtt;rw[List.nil_append,zj] at hP0;have hHl:(yG (zN tU) [be 8 ep++be 1 d,V.flatMap (be 32),Y.flatMap (be 32),Pr.flatMap be2]).length≤1152921504606840000:=by
  simp only[yG,uV,yM,List.flatMap_cons,List.flatMap_nil,List.length_append,zj,yb,List.length_nil,sr,oc];have:tU.size=7:=by decide
  omega
 have hO:=fun g1 c1 g2 g3 gA cA gR=>lI tU [AQ g1 9 c1,.slice (lgP g2 V.length) (V.flatMap (be 32)).length (V.flatMap (be 32)).length,.slice (lgP g3 Y.length) (Y.flatMap (be 32)).length (Y.flatMap (be 32)).length,.slice (lgP gA Pr.length) (Pr.flatMap be2).length cA]
  [be 8 ep++be 1 d,V.flatMap (be 32),Y.flatMap (be 32),Pr.flatMap be2] gR 0 4 kl hHl Dtt
 rw[show hOf (zN tU) [be 8 ep++be 1 d,V.flatMap (be 32),Y.flatMap (be 32),Pr.flatMap be2]=yN ep d V Y Pr from rfl] at hO;have hHlen:(byC (yN ep d V Y Pr)).length=32:=by rw[zd];exact zI _ _
 have hVc:(V.flatMap (be 32)).length<9223372036854775808:=by rw[sr];omega
 have hYc:(Y.flatMap (be 32)).length<9223372036854775808:=by rw[sr];omega
 generalize yN ep d V Y Pr=H at *;have hVm:(V.flatMap (be 32)).length=V.length*32:=sr _;have hYm:(Y.flatMap (be 32)).length=Y.length*32:=sr _;generalize V.flatMap (be 32)=VB at *;generalize Y.flatMap (be 32)=YB at *;have h9:byC (be 8 ep)++[Value.int .u8 (d:Int)]=byC (be 8 ep++be 1 d):=by rw[z8,aZ hd]
 refine Fn.enter Tryz.func31 rfl rfl rfl ?_;intro w hw;obtain⟨wV,wY,wP⟩:=hw
 repeat (first|refine Tk ?_|intro _|exact Tz)
 rename_i gD gH
 refine WC.loopI (σ:=Nat × Nat × Nat × List Value) (fun s=>s.1≤Pr.length∧(0<s.1→(byC ((Pr.take s.1).flatMap be2)++s.2.2.2).length=s.2.2.1∧s.2.2.1<9223372036854775808)) (fun s=>[(1,pt gD),(2,pt gH),(3,agV s.2.1 s.2.2.1 (s.1*64) s.1),(7,.slice pP Pr.length cP),(8,.int .i64 (Pr.length:Int)),(9,.int .i64 (s.1:Int))])
  (fun s=>⟨gH,70,byC (List.replicate 32 0)⟩::⟨gD,51,dlC ep d (.slice pV V.length cV) (.slice pY Y.length cY) (.slice pP Pr.length cP) sC sS⟩::agL s.2.1 ((Pr.take s.1).flatMap be2) s.2.2.2 s.1) (fun s=>Pr.length - s.1) (0,0,0,[]) (fun s hi=>?_) ⟨Nat.zero_le _,fun h=>absurd h Dtt⟩
 obtain⟨i,gA,cA,r⟩:=s
 try dsimp only at hi ⊢
 obtain⟨hi,hr⟩:=hi
 by_cases hlt:i<Pr.length
 ·obtain⟨x,hx⟩ : ∃ x,Pr[i]?=some x:=⟨_,List.getElem?_eq_getElem hlt⟩;obtain⟨b,o,rfl,_,hs⟩:=wP.get hx;have hadd2:IntKind.i64.wrap ((i:Int)+1)=((i+1:Nat):Int):=zl Om Om Om;have hcx:cut (Pr.flatMap pfC) (o+i*8 - o) 8=pfC x:=by rw[Nat.add_sub_cancel_left];exact zL pR hx
  have hst:(Pr.take i).flatMap be2++be2 x=(Pr.take (i+1)).flatMap be2:=by rw[List.take_add_one,hx];simp
  have hB1:((Pr.take i).flatMap be2).length=i*64:=by rw[oc,List.length_take];omega
  have hL:=fun g=>du [x.1,x.2] (some ⟨g,0,none⟩) 2 Sm (by show 2≤8589934592;omega);rw[show [x.1,x.2].flatMap (be 32)=be2 x by simp] at hL;have h64:(be2 x).length=64:=by rw[List.length_append,zj,zj]
  rw[h64] at hL;have hyl:(byC (be2 x)).length=64 * [Value.int .u8 0].length:=by rw[zd,h64];rfl
  generalize hB2:(Pr.take (i+1)).flatMap be2=B2 at *
  rcases i with _|i
  ·try dsimp only[agV,agL,List.nil_append]
   have hst' : be2 x=B2:=by rw[← hst];rfl
   repeat (first|refine Tk ?_|intro _|exact Tz)
   refine WC.dT rfl Om ?_
   repeat (first|refine Tj ?_|intro _|refine WO.does (zb (o':=o+0*8) rfl rfl hlt rfl) ?_|refine WO.does (zn (vs:=pfC x) (hs:=hs) (hle:=Nat.le_add_right _ _) (hc:=hcx)) ?_|(refine WO.makes (zh (cs:=zc x.1++zc x.2) rfl Dtt rfl) ?_;intro _)|refine WO.acallN (hc:=hL _) (hR:=fun w1 hm=>RdF.seg (f:=zc) (xs:=[x.1,x.2]) (r:=[]) (Hs.sg hm)) (k:=fun g'=>?_)|refine Tc ?_|exact Tz)
   refine WO.appN (z:=[Value.int .u8 0]) (m:=64) rfl rfl rfl (Rds.own (m:=64) Hs.here (zt (by rw[zd,h64]))) hyl Dtt Dtt Dtt Dtt (fun g1 c1 r1 a1 a2 a3=>?_);rw[hst']
   repeat (first|refine Tj ?_|intro _|refine WO.does (zi rfl rfl hadd2) ?_|refine Tc ?_|exact Tz)
   subst hB2;exact WX.metI (1,g1,c1,r1) (hs:=⟨⟨by show 0+1≤Pr.length;omega,fun _=>⟨by rw[← hst',a1];exact Nat.mul_one _,a2⟩⟩,by show Pr.length - (0+1)<Pr.length - 0;omega⟩)
  ·obtain⟨r1,r2⟩:=hr Om;generalize (Pr.take (i+1)).flatMap be2=B1 at *
   try dsimp only[agV,agL,List.cons_append,List.nil_append]
   repeat (first|refine Tk ?_|intro _|exact Tz)
   refine WC.dT rfl Om ?_
   repeat (first|refine Tj ?_|intro _|refine WO.does (zb (o':=o+(i+1)*8) rfl rfl hlt rfl) ?_|refine WO.does (zn (vs:=pfC x) (hs:=hs) (hle:=Nat.le_add_right _ _) (hc:=hcx)) ?_|(refine WO.makes (zh (cs:=zc x.1++zc x.2) rfl Dtt rfl) ?_;intro _)|refine WO.acallN (hc:=hL _) (hR:=fun w1 hm=>RdF.seg (f:=zc) (xs:=[x.1,x.2]) (r:=[]) (Hs.sg hm)) (k:=fun g'=>?_)|refine Tc ?_|exact Tz)
   refine WO.appK (z:=[Value.int .u8 0]) (m:=64) (l:=(i+1+1)*64) rfl rfl rfl (xs:=byC B1) (r:=r) (by rw[zd,hB1];exact (Nat.mul_one _).symm) (by rw[r1];exact (Nat.mul_one _).symm) Pk.a (Rds.own (m:=64) Hs.here (zt (by rw[zd,h64]))) hyl (zM _) Om Om r2 Om Dtt Dtt (fun g1 c1 r1 a1 a2 a3=>?_);rw[← z8,hst] at a1 ⊢
   repeat (first|refine Tj ?_|intro _|refine WO.does (zi rfl rfl hadd2) ?_|refine Tc ?_|exact Tz)
   subst hB2;exact WX.metI (i+1+1,g1,c1,r1) (hs:=⟨⟨by show i+1+1≤Pr.length;omega,fun _=>⟨by rw[a1];exact Nat.mul_one _,a2⟩⟩,by show Pr.length - (i+1+1)<Pr.length - (i+1);omega⟩)
 ·have hi2:i=Pr.length:=by omega
  subst hi2;rw[List.take_length] at *;have hBl:(Pr.flatMap be2).length=Pr.length*64:=oc _;rw[← hBl]
  obtain⟨cB,hAV,hcA,hcB⟩ : ∃ cB,agV gA cA (Pr.flatMap be2).length Pr.length=.slice (lgP gA Pr.length) (Pr.flatMap be2).length cB∧(Pr.flatMap be2).length≤cB∧cB<9223372036854775808:=by
   cases hk:Pr.length with
   | zero=>exact⟨0,by rw[hBl,hk];rfl,by rw[hBl,hk];decide,by decide⟩
   | succ k =>
    obtain⟨r1,r2⟩:=hr Om;exact⟨cA,rfl,by rw[← r1,List.length_append,zd];omega,r2⟩
  rw[hAV];generalize Pr.flatMap be2=PB at *;generalize hPm:Pr.length=nP at *;generalize hVk:V.length=nV at *;generalize hYk:Y.length=nY at *
  try dsimp only[List.cons_append,List.nil_append]
  repeat (first|refine Tk ?_|intro _|exact Tz)
  refine WC.dF rfl Om ?_
  repeat (first|refine Tk ?_|intro _|exact Tz)
  refine WC.adraw 16 (k:=?_)
  iterate 2 (refine DQ.auto (k:=?_))
  refine DQ.acallS (hc:=hP0) (hR:=fun _=>Rd.nil) (k:=?_)
  iterate 2 (refine DQ.auto (k:=?_))
  refine DQ.makes (vf:=fun _ g=>AQ g 1 1) (t:=5) (cs:=fun _=>[.int .u8 (d:Int)]) (fun s _=>zh rfl Dtt rfl) Dp.const Dp.const ?_
  refine DQ.newsE (vf:=fun _ x=>AQ (x 0) 9 (x 1)) (Nf:=fun _ x=>[⟨x 0,5,byC (be 8 ep)++[.int .u8 (d:Int)]++mkz (x 1 - 9) [.int .u8 0]⟩]) (S:=fun _ x=>9≤x 1∧x 1<9223372036854775808)
   (fun s=>[⟨s 5 0,5,[.int .u8 (d:Int)]⟩,⟨s 2 0,5,byC (be 8 ep)⟩]) (fun s=>.cons 5 (.head _) Dkk (.cons 2 Mh.a Dkk .nil)) (fun _=>⟨fun _=>9,by decide,by decide⟩)
   (fun s _=>tw (z:=[Value.int .u8 0]) (len:=8) (n:=1) rfl rfl (ys:=byC (be 8 ep)) (Rds.own (m:=8) (Hs.there Hs.here) (zt (by rw[zd,zj]))) (by rw[zd,zj];rfl) (xs:=[.int .u8 (d:Int)]) (Rds.own (m:=1) Hs.here rfl) rfl Dtt Dtt Dtt Dtt rfl) Dp.const Dp.const Dp.const ?_
  try dsimp only[List.map_cons,List.map_nil,List.cons_append,List.nil_append]
  iterate 2 (refine DQ.auto (k:=?_))
  refine DQ.callsE (fs:=fun _=>[]) (cs:=fun _=>[]) (R:=fun _=>RdF zc (.slice pV nV cV) V) (vf:=fun _ x=>.slice (lgP (x 0) nV) VB.length VB.length) (Nf:=fun _ x=>lgL (x 0) VB nV) (S:=fun _ _=>True) (fun _=>[]) (fun _=>.nil)
   (fun _=>⟨fun _=>0,trivial⟩) (fun _ _=>hLV) (fun _=>rfl) (fun _=>rfl) (fun _=>rfl) (fun _ _ w hm=>wV.mod hm.mod) Dp.const Dp.const Dp.const ?_
  try dsimp only[List.map_nil,List.nil_append]
  iterate 2 (refine DQ.auto (k:=?_))
  refine DQ.callsE (fs:=fun _=>[]) (cs:=fun _=>[]) (R:=fun _=>RdF zc (.slice pY nY cY) Y) (vf:=fun _ x=>.slice (lgP (x 0) nY) YB.length YB.length) (Nf:=fun _ x=>lgL (x 0) YB nY) (S:=fun _ _=>True) (fun _=>[]) (fun _=>.nil)
   (fun _=>⟨fun _=>0,trivial⟩) (fun _ _=>hLY) (fun _=>rfl) (fun _=>rfl) (fun _=>rfl) (fun _ _ w hm=>wY.mod hm.mod) Dp.const Dp.const Dp.const ?_
  try dsimp only[List.map_nil,List.nil_append]
  refine DQ.auto (k:=?_);refine DQ.makes (vf:=fun _ g=>AQ g 4 4) (t:=126) (cs:=fun s=>[AQ (s 6 0) 9 (s 6 1),.slice (lgP (s 9 0) nV) VB.length VB.length,.slice (lgP (s 12 0) nY) YB.length YB.length,.slice (lgP gA nP) PB.length cB]) (fun s _=>zh rfl Dtt rfl) Dp.const (by intro s s' h;dsimp only;rw[h,h,h]<;>decide +kernel) ?_
  refine DQ.callE (v:=fun _=>.agg (byC H).toArray) (fun s=>[⟨s 14 0,126,[AQ (s 6 0) 9 (s 6 1),.slice (lgP (s 9 0) nV) VB.length VB.length,.slice (lgP (s 12 0) nY) YB.length YB.length,.slice (lgP gA nP) PB.length cB]⟩]++(lgL (s 12 0) YB nY++(lgL (s 9 0) VB nV++[⟨s 6 0,5,byC (be 8 ep)++[.int .u8 (d:Int)]++mkz (s 6 1 - 9) [.int .u8 0]⟩])))
   (fun s=>.cons 14 Sm Dkk (Vs.lg 12 (fun k hk=>by simp[hk,lgL]) Dkk (Vs.lg 9 (fun k hk=>by simp[hk,lgL]) Dkk (.cons 6 Sm Dkk .nil)))) (fun s _=>hO (s 6 0) (s 6 1) (s 9 0) (s 12 0) gA cB (s 14 0)) (fun s=>rfl)
   (fun s hC w hm=>⟨Hs.seg Hs.here hm,z6.cons (by
     have hab:=RdP.own (g:=s 6 0) (c:=s 6 1) (X:=be 8 ep++be 1 d) (r:=mkz (s 6 1 - 9) [Value.int .u8 0]) (t:=5) hm (by rw[← h9];exact Hs.there (Hs.left (Hs.right (M:=lgL (s 12 0) YB nY) (Hs.right (M:=lgL (s 9 0) VB nV) Hs.here)))) (by rw[List.length_append,zj,zj];exact hC.1.1.2.1) hC.1.1.2.2;rw[List.length_append,zj,zj] at hab;exact hab) (z6.cons (RdP.lg hm hVm (fun k hk=>by rw[hk];exact Hs.there (Hs.left (Hs.right (M:=lgL (s 12 0) YB nY) (Hs.left (M:=lgL (s 9 0) VB (k+1)) Hs.here)))) hVc) (z6.cons (RdP.lg hm hYm (fun k hk=>by rw[hk];exact Hs.there (Hs.left (Hs.left (M:=lgL (s 12 0) YB (k+1)) Hs.here))) hYc) (z6.cons (RdP.ag (r:=r) hm hBl (fun k hk=>by rw[hk];exact Hs.there (Hs.right (Hs.there (Hs.there Hs.here)))) hcA hcB) z6.nil)))⟩) Dp.const ?_
  refine DQ.anil (k:=?_);intro sx _;refine WO.permA (List.Perm.cons _ List.perm_append_comm) ?_
  try dsimp only[List.cons_append]
  refine WO.stores (zo (vs:=byC H) (cs':=byC H) (hl:=hHlen) (h1:=zM _) (hc:=zC (by rw[hHlen];rfl)) (hle:=by rw[hHlen];rfl)) ?_
  repeat (first|refine Tk ?_|intro _|exact Tz)
  exact WX.aret1 (hr:=vF (vs:=byC H) (hc:=zt hHlen) (hl:=hHlen)) (hp:=rfl)
theorem pM (ep d:Nat) (sC sS:Nat) (pV pY pP:Option Addr) (cV cY cP:Nat) (V Y:LN) (Pr:LP) (hd:d<256) (_:V≠[]) (_:Y≠[]) (_:Pr≠[]) (hVl:V.length≤1000) (hYl:Y.length≤1000) (hPl:Pr.length≤1000) :
  Fn Tryz.prog 31 [dlV ep d (.slice pV V.length cV) (.slice pY Y.length cY) (.slice pP Pr.length cP) sC sS]
   (fun w=>RdF zc (.slice pV V.length cV) V w∧RdF zc (.slice pY Y.length cY) Y w∧RdF pfC (.slice pP Pr.length cP) Pr w) (Is (.agg (byC (yN ep d V Y Pr)).toArray)) :=
 jr ep d sC sS pV pY pP cV cY cP V Y Pr hd hVl hYl hPl
end Sx
end
section
open Go Go.RowKit Go.BigFrame
namespace Sx
attribute [local irreducible] DQ WC WO WX wd
theorem i2 (n:Nat) (hn:n<1000):Fn Tryz.prog 241 [.int .i64 (n:Int)] Tr (Is (.int .i64 (-((n+1:Nat):Int)))):=by
 have h1:IntKind.i64.wrap (0 - (n:Int)) = -(n:Int):=by simp[IntKind.wrap,IntKind.signed,IntKind.bits];omega
 have h2:IntKind.i64.wrap (-(n:Int) - 1) = -((n+1:Nat):Int):=by simp[IntKind.wrap,IntKind.signed,IntKind.bits];omega
 refine Fn.enter Tryz.func241 rfl rfl rfl ?_;intro w hw
 repeat (first|refine Tj ?_|intro _|refine WO.does (mB rfl h1) ?_|refine WO.does (zG rfl rfl h2) ?_|refine Tc ?_|exact Tz)
abbrev aaX:List Value:=[.int .i64 3,.func (.func 241) #[] #[]]
theorem fX:Fn Tryz.prog 204 [] Tr (Is (.agg aaX.toArray)):=by
 refine Fn.enter Tryz.func204 rfl rfl rfl ?_;intro w hw
 repeat (first|refine Tk ?_|intro _|exact Tz)
def scN (q:Nat) (l:LN) (i:Nat):Nat:=ye l (q - (i+1))%q
def scL (q:Nat) (l:LN) (n:Nat):List Nat:=(List.range n).map (scN q l)
section
variable (p q g h:Nat)
theorem fj (l:LN) (pz:Option Addr) (c i gS gG gP:Nat) (hl:∀ a∈l,a<ze) (hn:l.length≤1099511627776) (hq:q<ze) (hb1:uz q l=true) (hi:i+1<q) (hi2:i<900) :
  Fn Tryz.prog 232 ([.int .i64 (i:Int)]++[pt gG,pt gP,pt gS]) (fun w=>Seg w gG 0 (yI p q g h)∧Seg w gP 0 [.slice pz l.length c]∧Seg w gS 0 aaX∧RdF zc (.slice pz l.length c) l w) (Is (.tuple #[zk (scN q l i),.int .i64 0])):=by
 have h1:=i2 i Om;have h2:=dm p q g h (i+1) Om Om hi hq;have h3:=mg p q g h l pz c (q - (i+1)) hl hn hq Om hb1 Om;rw[show ye l (q - (i+1))%q=scN q l i from rfl] at h3;generalize scN q l i=V at *;refine Fn.enter Tryz.func232 rfl rfl rfl ?_;intro w hw;obtain⟨wG,wP,wS,wL⟩:=hw
 repeat (first|refine Tk ?_|intro _|exact Tz)
 refine WC.adraw 11 (k:=?_)
 iterate 11 (first|refine Da ?_|refine DQ.does (fun s _=>zn (hs:=wG) (hle:=Nat.le_refl _) (vs:=yI p q g h)) Dp.const ?_|refine DQ.does (fun s _=>zm (hs:=wP) (hle:=Nat.le_refl _)) Dp.const ?_|refine DQ.does (fun s _=>zm (hs:=wS) (hle:=Nat.zero_le _)) Dp.const ?_|refine DQ.acallV (hc:=h1) (k:=?_)|refine DQ.acall (hc:=h2) (k:=?_)|refine DQ.acallM (hc:=h3) (hR:=fun w hm=>wL.mod hm.mod) (k:=?_)|refine Dc ?_)
 refine DQ.anil (k:=?_);intro sx _
 repeat (first|refine Tk ?_|intro _|exact Tz)
 done
end
section
variable (p q g h:Nat) (l:LN) (pz:Option Addr) (c m:Nat)
theorem eW (hl:∀ a∈l,a<ze) (hn:l.length≤1099511627776) (hq:q<ze) (hb1:uz q l=true) (h1:1≤m) (hm:m≤3) (hmq:m<q) :
  Fn Tryz.prog 189 [.agg aaX.toArray,vV p q g h,.slice pz l.length c,.int .i64 (m:Int)] (RdF zc (.slice pz l.length c) l)
   (Ex (fun s=>.tuple #[AQ (s 0) m m,.int .i64 0]) (fun s=>[⟨s 0,24,(scL q l m).flatMap zc⟩]) (fun _=>True)):=by
 have hC:=fun gS gG gP=>acr (f:=232) [pt gG,pt gP,pt gS] (scN q l) m (fun w=>Seg w gG 0 (yI p q g h)∧Seg w gP 0 [.slice pz l.length c]∧Seg w gS 0 aaX∧RdF zc (.slice pz l.length c) l w)
  (fun w w' ⟨a,b,d,e⟩ hb=>⟨zX.seg w w' a hb,zX.seg w w' b hb,zX.seg w w' d hb,e.mod (.of_below hb _)⟩) Om (fun i hi=>fj p q g h l pz c i gS gG gP hl hn hq hb1 Om Om)
 refine Fn.enter Tryz.func189 rfl rfl rfl ?_;intro w hw
 repeat (first|refine Tj ?_|intro _|refine WO.does (z7 rfl rfl Om) ?_|refine WO.does (zH rfl rfl) ?_|refine WO.does (yn rfl rfl Om) ?_|refine Tc ?_|exact Tz)
 repeat (first|refine Tj ?_|intro _|refine WO.does (zH rfl rfl) ?_|refine WO.acallX (hc:=hC _ _ _) (hR:=fun w1 hm=>⟨Hs.sg hm,Hs.sg hm,Hs.sg hm,hw.mod hm.mod⟩) (k:=fun s _=>?_)|refine Tc ?_|exact Tz)
 generalize s 0=g0
 repeat (first|refine Tk ?_|intro _|exact Tz)
 exact WX.ret2 rfl Rv.t Rv.t [⟨g0,24,(scL q l m).flatMap zc⟩] (Lle.c Lle.nil) ⟨fun _=>g0,rfl,rfl,trivial⟩
theorem de (hl:∀ a∈l,a<ze) (hn:l.length≤1099511627776) (hq:q<ze) (hb1:uz q l=true) (h1:1≤m) (hm:m≤3) (hmq:m<q) :
  Fn Tryz.prog 163 [vV p q g h,.slice pz l.length c,.int .i64 (m:Int)] (RdF zc (.slice pz l.length c) l)
   (Ex (fun s=>.tuple #[AQ (s 0) m m,.int .i64 0]) (fun s=>[⟨s 0,24,(scL q l m).flatMap zc⟩]) (fun _=>True)):=by
 have hV:=eW p q g h l pz c m hl hn hq hb1 h1 hm hmq;have hN:=fX;refine Fn.enter Tryz.func163 rfl rfl rfl ?_;intro w hw
 repeat (first|refine Tk ?_|intro _|exact Tz)
 refine WC.adraw 9 (k:=?_);refine DQ.acall (hc:=hN) (k:=?_)
 iterate 3 (refine DQ.auto (k:=?_))
 refine DQ.callsE (fs:=fun _=>[]) (cs:=fun _=>[]) (R:=fun _=>RdF zc (.slice pz l.length c) l) (vf:=fun _ x=>.tuple #[AQ (x 0) m m,.int .i64 0]) (Nf:=fun _ x=>[⟨x 0,24,(scL q l m).flatMap zc⟩]) (S:=fun _ _=>True) (fun _=>[]) (fun _=>.nil)
  (fun _=>⟨fun _=>0,trivial⟩) (fun _ _=>hV) (fun _=>rfl) (fun _=>rfl) (fun _=>by simp) (fun _ _ w hm=>hw.mod hm.mod) Dp.const Dp.const Dp.const ?_
 try dsimp only[List.map_cons,List.map_nil,List.cons_append,List.nil_append]
 iterate 4 (refine DQ.auto (k:=?_))
 refine DQ.anil (k:=?_);intro sx _;generalize sx 4 0=g0
 repeat (first|refine Tk ?_|intro _|exact Tz)
 exact WX.ret2 rfl Rv.t Rv.t [⟨g0,24,(scL q l m).flatMap zc⟩] (Lle.c Lle.nil) ⟨fun _=>g0,rfl,rfl,trivial⟩
end
theorem RdF.nilV {α:Type} {f:α→List Value} {w:World} {c:Nat}:RdF f (.slice none 0 c) [] w:=⟨_,_,rfl,.inl ⟨rfl,rfl⟩⟩
theorem RdF.ownO {α:Type} {f:α→List Value} {xs:List α} {r:LV} {w:World} {g n c:Nat} (hs:Seg w g 0 (xs.flatMap f++r)) (hn:xs.length=n):RdF f (AQ g n c) xs w:=by
 subst hn;exact RdF.seg hs
theorem vc {A C vs:LV} {j n:Nat} (hn:A.length=n):over (A++C) (n+j) vs=A++over C j vs:=by
 subst hn;unfold over;rw[List.take_append,List.drop_append,List.take_of_length_le Om,List.drop_of_length_le Om,List.nil_append,show A.length+j - A.length=j by omega,show A.length+j+vs.length - A.length=j+vs.length by omega];simp only[List.append_assoc]
theorem RdF.rds {α:Type} {f:α→List Value} {pt:Option Addr} {n c:Nat} {xs:List α} {w:World} {L:List Ent} (h:RdF f (.slice pt n c) xs w) (hn:xs.length=n):Rds w [] L (.slice pt n c) n (xs.flatMap f):=by
 obtain⟨pt',c',e,hpc⟩:=h;cases e
 rcases hpc with ⟨rfl,rfl⟩|⟨b,o,rfl,hs⟩
 ·exact Rds.nil
 ·exact Rds.seg (m:=(xs.flatMap f).length) hs (Nat.le_refl _) Sm (by rw[Nat.sub_self];unfold cut;rw[List.drop_zero,List.take_length])
end Sx
end
end Go.Proofs.YtiaibpcaloigkaaGreatDoor
