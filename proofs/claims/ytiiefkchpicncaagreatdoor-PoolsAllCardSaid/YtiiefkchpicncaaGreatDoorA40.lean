/- Part 40 of the proof. -/
import Derived.Test.YtiiefkchpicncaaGreatDoorA37
import Derived.Test.YtiiefkchpicncaaGreatDoorA39
set_option linter.unusedSimpArgs false
set_option linter.unusedVariables false
set_option maxHeartbeats 8000000
namespace Go.Proofs.YtiiefkchpicncaaGreatDoor
section
open Go Go.RowKit Go.BigFrame
namespace Sx
attribute [local irreducible] DQ WC WO WX wd
theorem bn (n:Nat) (hn:n<4611686018427387904):Fn Tryz.prog 161 [.int .i64 (n:Int)] Tr (Is (.int .i64 ((n+1:Nat):Int))):=by
 have ha:IntKind.i64.wrap ((n:Int)+1)=((n+1:Nat):Int):=zn Om Om Om;refine Fn.enter Tryz.func161 rfl rfl rfl ?_;intro w hw
 repeat (first|refine Ta ?_|(refine Tm ?_;intro _)|refine WO.does (zi rfl rfl ha) ?_|refine Tc ?_|exact Tz)
abbrev aI:List Value:=[.int .i64 7,.func (.func 161) #[] #[]]
theorem abS:Fn Tryz.prog 118 [] Tr (Is (.agg aI.toArray)):=by
 refine Fn.enter Tryz.func118 rfl rfl rfl ?_;intro w hw
 repeat (first|refine Tw ?_|(refine Tm ?_;intro _)|exact Tz)
section
variable (p q g h:Nat)
theorem dy (l:List Nat) (pz:Option Addr) (c i gS gG gP:Nat) (hl:∀ a∈l,a<zd) (hn:l.length≤1099511627776) (hq:q<zd) (hb1:tP q l=true) (hi:i+1<q) (hi2:i<1000) :
  Fn Tryz.prog 163 ([.int .i64 (i:Int)]++[pt gG,pt gP,pt gS]) (fun w=>Seg w gG 0 (yB p q g h)∧Seg w gP 0 [.slice pz l.length c]∧Seg w gS 0 aI∧RdF zb (.slice pz l.length c) l w) (Is (.tuple #[zj (shN q l i),.int .i64 0])):=by
 have h1:=bn i Om;have h2:=jn p q g h (i+1) Om hq;rw[dN q (i+1) Om,Nat.mod_eq_of_lt hi] at h2;have h3:=jo p q g h l pz c (i+1) hl hn hq (Nat.lt_trans hi hq) hb1 hi;rw[show yA l (i+1)%q=shN q l i from rfl] at h3;generalize shN q l i=V at *;refine Fn.enter Tryz.func163 rfl rfl rfl ?_;intro w hw;obtain⟨wG,wP,wS,wL⟩:=hw
 repeat (first|refine Tw ?_|(refine Tm ?_;intro _)|exact Tz)
 refine WC.adraw 11 (k:=?_)
 iterate 11 (first|refine Da ?_|refine DQ.does (fun s _=>zm (hs:=wG) (hle:=Nat.le_refl _) (vs:=yB p q g h)) Dp.const ?_|refine DQ.does (fun s _=>zl (hs:=wP) (hle:=Nat.le_refl _)) Dp.const ?_|refine DQ.does (fun s _=>zl (hs:=wS) (hle:=Nat.zero_le _)) Dp.const ?_|refine DQ.acallV (hc:=h1) (k:=?_)|refine DQ.acall (hc:=h2) (k:=?_)|refine DQ.acallM (hc:=h3) (hR:=fun w hm=>wL.mod hm.mod) (k:=?_)|refine Dc ?_)
 refine DQ.anil (k:=?_);intro sx _
 repeat (first|refine Tw ?_|(refine Tm ?_;intro _)|exact Tz)
 done
end
theorem aev {f:Nat} [Cal Tryz.prog f] (caps:List Value) (V:Nat→Nat) (m:Nat) (R:World→Prop) (hst:yj R) (hm:m≤100)
  (hf:∀ i,i<m→Fn Tryz.prog f ([.int .i64 (i:Int)]++caps) R (Is (.tuple #[zj (V i),.int .i64 0]))) :
  Fn Tryz.prog 162 [.int .i64 (m:Int),.func (.func f) #[] caps.toArray] R
   (Ex (fun s=>.tuple #[.slice (some ⟨s 0,0,none⟩) m m,.int .i64 0]) (fun s=>[⟨s 0,24,((List.range m).map V).flatMap zb⟩]) (fun _=>True)):=by
 refine Fn.enter Tryz.func162 rfl rfl rfl ?_;intro w hw
 repeat (first|refine Ta ?_|(refine Tm ?_;intro _)|(refine WO.makes (z6 (l:=0) (c:=m) rfl rfl Om Om Om) ?_;intro g)|refine Tc ?_|exact Tz)
 refine WC.loopI (σ:=Nat) (fun i=>i≤m) (fun i=>[(1,.func (.func f) #[] caps.toArray),(5,.int .i64 0),(6,.slice (some ⟨g,0,none⟩) i m),(12,.int .i64 (m:Int)),(13,.int .i64 (i:Int))]) (fun i=>[⟨g,24,((List.range i).map V).flatMap zb++mkz (m - i) (zb 0)⟩]) (fun i=>m - i) 0 (fun i hi=>?_) (Nat.zero_le _)
 try dsimp only at hi ⊢
 by_cases hlt:i<m
 ·have hadd2:IntKind.i64.wrap ((i:Int)+1)=((i+1:Nat):Int):=zn Om Om Om;have hcall:=hf i hlt;have hx:((List.range m).map V)[i]?=some (V i):=by simp[hlt]
  have htk:∀ j,j≤m→((List.range m).map V).take j=(List.range j).map V:=fun j hj=>by rw[← List.map_take,List.take_range,Nat.min_eq_left hj]
  have hov:=ni (f:=zb) (z:=zb 0) (m:=m - i) ya rfl hx Om;rw[htk i Om,htk (i+1) Om,show m - i - 1=m - (i+1) by omega] at hov;have hle:i*(zb 0).length+(zb (V i)).length≤(((List.range i).map V).flatMap zb++mkz (m - i) (zb 0)).length:=by
   rw[List.length_append,zK ya,zN,List.length_map,List.length_range];show i*4+4≤i*4+(m - i)*4;have:1*4≤(m - i)*4:=Nat.mul_le_mul_right _ Om;omega
  repeat (first|refine Tw ?_|(refine Tm ?_;intro _)|exact Tz)
  refine WC.dT rfl Om ?_
  repeat (first|refine Ta ?_|(refine Tm ?_;intro _)|refine WO.acallV (hc:=hcall) (hR:=fun w' hm=>hst _ _ hw hm.mod.below) (k:=?_)|refine Tc ?_|exact Tz)
  repeat (first|refine Ta ?_|(refine Tm ?_;intro _)|(refine WO.makes (zh (t:=42) (cs:=zb (V i)) rfl (by decide) rfl) ?_;intro g2)|refine WO.both (sW (s:=undef) (z:=zb 0) rfl rfl (Rds.own (m:=4) Hs.here rfl) rfl Om rfl (by repeat (first|exact Rp.here|apply Rp.there)) hov hle rfl (by decide)) ?_|refine WO.does (zi rfl rfl hadd2) ?_|refine Tc ?_|exact Tz)
  exact WX.metI (i+1) (hs:=⟨by show i+1≤m;omega,by show m - (i+1)<m - i;omega⟩)
 ·have hi2:i=m:=by omega
  subst hi2;rw[Nat.sub_self,show mkz 0 (zb 0)=[] from rfl,List.append_nil]
  repeat (first|refine Tw ?_|(refine Tm ?_;intro _)|exact Tz)
  refine WC.dF rfl Om ?_
  repeat (first|refine Tw ?_|(refine Tm ?_;intro _)|exact Tz)
  exact WX.ret2 rfl (by exact zo rfl) (by exact zo rfl) [⟨g,24,((List.range i).map V).flatMap zb⟩] (Lle.c Lle.nil) ⟨fun _=>g,rfl,rfl,trivial⟩
section
variable (p q g h:Nat) (l:List Nat) (pz:Option Addr) (c m:Nat)
theorem bE (hl:∀ a∈l,a<zd) (hn:l.length≤1099511627776) (hq:q<zd) (hb1:tP q l=true) (h1:1≤m) (hm:m≤7) (hmq:m<q) :
  Fn Tryz.prog 119 [.agg aI.toArray,vC p q g h,.slice pz l.length c,.int .i64 (m:Int)] (RdF zb (.slice pz l.length c) l)
   (Ex (fun s=>.tuple #[.slice (some ⟨s 0,0,none⟩) m m,.int .i64 0]) (fun s=>[⟨s 0,24,(shL q l m).flatMap zb⟩]) (fun _=>True)):=by
 have hC:=fun gS gG gP=>aev (f:=163) [pt gG,pt gP,pt gS] (shN q l) m (fun w=>Seg w gG 0 (yB p q g h)∧Seg w gP 0 [.slice pz l.length c]∧Seg w gS 0 aI∧RdF zb (.slice pz l.length c) l w)
  (fun w w' ⟨a,b,d,e⟩ hb=>⟨yj.seg w w' a hb,yj.seg w w' b hb,yj.seg w w' d hb,e.mod (.of_below hb _)⟩) Om (fun i hi=>dy p q g h l pz c i gS gG gP hl hn hq hb1 Om Om)
 refine Fn.enter Tryz.func119 rfl rfl rfl ?_;intro w hw
 repeat (first|refine Ta ?_|(refine Tm ?_;intro _)|refine WO.does (yh rfl rfl Om) ?_|refine WO.does (zP rfl rfl) ?_|refine WO.does (y6 rfl rfl Om) ?_|refine Tc ?_|exact Tz)
 repeat (first|refine Ta ?_|(refine Tm ?_;intro _)|refine WO.does (zP rfl rfl) ?_|refine WO.acallX (hc:=hC _ _ _) (hR:=fun w1 hm=>⟨Hs.sg hm,Hs.sg hm,Hs.sg hm,hw.mod hm.mod⟩) (k:=fun s _=>?_)|refine Tc ?_|exact Tz)
 generalize s 0=g0
 repeat (first|refine Tw ?_|(refine Tm ?_;intro _)|exact Tz)
 exact WX.ret2 rfl (by exact zo rfl) (by exact zo rfl) [⟨g0,24,(shL q l m).flatMap zb⟩] (Lle.c Lle.nil) ⟨fun _=>g0,rfl,rfl,trivial⟩
theorem aeb (hl:∀ a∈l,a<zd) (hn:l.length≤1099511627776) (hq:q<zd) (hb1:tP q l=true) (h1:1≤m) (hm:m≤7) (hmq:m<q) :
  Fn Tryz.prog 62 [vC p q g h,.slice pz l.length c,.int .i64 (m:Int)] (RdF zb (.slice pz l.length c) l)
   (Ex (fun s=>.tuple #[.slice (some ⟨s 0,0,none⟩) m m,.int .i64 0]) (fun s=>[⟨s 0,24,(shL q l m).flatMap zb⟩]) (fun _=>True)):=by
 have hV:=bE p q g h l pz c m hl hn hq hb1 h1 hm hmq;have hN:=abS;refine Fn.enter Tryz.func62 rfl rfl rfl ?_;intro w hw
 repeat (first|refine Tw ?_|(refine Tm ?_;intro _)|exact Tz)
 refine WC.adraw 9 (k:=?_);refine DQ.acall (hc:=hN) (k:=?_)
 iterate 3 (refine DQ.auto (k:=?_))
 refine DQ.callsE (fs:=fun _=>[]) (cs:=fun _=>[]) (R:=fun _=>RdF zb (.slice pz l.length c) l) (vf:=fun _ x=>.tuple #[.slice (some ⟨x 0,0,none⟩) m m,.int .i64 0]) (Nf:=fun _ x=>[⟨x 0,24,(shL q l m).flatMap zb⟩]) (S:=fun _ _=>True) (fun _=>[]) (fun _=>.nil)
  (fun _=>⟨fun _=>0,trivial⟩) (fun _ _=>hV) (fun _=>rfl) (fun _=>rfl) (fun _=>by simp) (fun _ _ w hm=>hw.mod hm.mod) Dp.const Dp.const Dp.const ?_
 try dsimp only[List.map_cons,List.map_nil,List.cons_append,List.nil_append]
 iterate 4 (refine DQ.auto (k:=?_))
 refine DQ.anil (k:=?_);intro sx _;generalize sx 4 0=g0
 repeat (first|refine Tw ?_|(refine Tm ?_;intro _)|exact Tz)
 exact WX.ret2 rfl (by exact zo rfl) (by exact zo rfl) [⟨g0,24,(shL q l m).flatMap zb⟩] (Lle.c Lle.nil) ⟨fun _=>g0,rfl,rfl,trivial⟩
end
section
variable (p q g h:Nat) (f sec:Int) (ns:Value)
theorem adH (l:List Nat) (pz:Option Addr) (c:Nat) (hl:∀ a∈l,a<zd) (hn:l.length≤1099511627776) (hq:q<zd) (hf:0≤f∧0≤sec∧f+sec≤5) :
  Fn Tryz.prog 60 [stV p q g h f sec ns,.slice pz l.length c] (RdF zb (.slice pz l.length c) l) (Is (.bool (decide ((l.length:Int)=f+sec) && tP q l))):=by
 have hadd:IntKind.i64.wrap (f+sec)=f+sec:=i64_in Om Om;cases hb:tP q l with
 | true =>
  have hA:=jo p q g h l pz c 0 hl hn hq (tW (by decide)) hb (by have:=(uE hb).1;omega);generalize yA l 0%q=V at *;rw[Bool.and_true];refine Fn.enter Tryz.func60 rfl rfl rfl ?_;intro w hw
  repeat (first|refine Ta ?_|(refine Tm ?_;intro _)|refine WO.acallR (hc:=hA) (hR:=fun w1 hm=>hw.mod hm.mod) (k:=?_)|refine WO.does (zi rfl rfl hadd) ?_|refine Tc ?_|exact Tz)
  by_cases he:(l.length:Int)=f+sec
  ·have d:decide ((l.length:Int)=f+sec)=true:=decide_eq_true he;rw[d]
   repeat (first|refine Tw ?_|(refine Tm ?_;intro _)|exact Tz)
  ·have d:decide ((l.length:Int)=f+sec)=false:=decide_eq_false he;rw[d]
   repeat (first|refine Tw ?_|(refine Tm ?_;intro _)|exact Tz)
 | false =>
  have hA:=aaq p q g h l pz c 0 hl hn hq (tW (by decide)) (by rw[hb,Bool.false_and]);rw[Bool.and_false];refine Fn.enter Tryz.func60 rfl rfl rfl ?_;intro w hw
  repeat (first|refine Ta ?_|(refine Tm ?_;intro _)|refine WO.acallR (hc:=hA) (hR:=fun w1 hm=>hw.mod hm.mod) (k:=?_)|refine WO.does (zi rfl rfl hadd) ?_|refine Tc ?_|exact Tz)
  by_cases he:(l.length:Int)=f+sec
  ·have d:decide ((l.length:Int)=f+sec)=true:=decide_eq_true he;rw[d]
   repeat (first|refine Tw ?_|(refine Tm ?_;intro _)|exact Tz)
  ·have d:decide ((l.length:Int)=f+sec)=false:=decide_eq_false he;rw[d]
   repeat (first|refine Tw ?_|(refine Tm ?_;intro _)|exact Tz)
end
section
open Kp
variable {P:Program} {w0:World} {gs:List Nat} {n:Nat} {fl:List Nat} {Q:Exit→Act→World→Prop} {ops:List Oper} {L0:List Ent}
variable {tail rest:List Oper} {i:Nat} {C:zI→Prop} {K:zI→List (Nat × Value)} {N:zI→List (Nat × Ent)}
variable {d:Nat} {op:Op} {ty:TypeId} {pos:String} {after:Array Edge} {gd:Option (Nat × Bool)}
theorem DQ.acallS {f:FuncId} [Cal P f] {xs:Array Operand} {ats:Array TypeId} {vs:List Value} {Rq:World→Prop} {t m:Nat} {cs:List Value} (hc:Fn P f vs Rq (dQ t m cs)) (hR:∀ w,Rq w) (ha:∀ s,evs (K s) xs.toList=some vs:=by (intro s;rfl))
  (k:DQ P w0 gs n fl Q ops L0 tail (i+1) rest (fun s=>C s∧True) (fun s=>(d,.slice (some ⟨s i 0,0,none⟩) m m)::K s) (fun s=>(i,⟨s i 0,t,cs⟩)::N s))
  (hfl:fl.contains i=false:=by rfl) (hw:∀ s,wk ops (K s) gd=some true:=by intro _;rfl) (hd:Nat.blt d n=true:=by rfl) :
  DQ P w0 gs n fl Q ops L0 tail i (⟨some d,.call { callee:=.value (.func f),args:=xs,argTypes:=ats },ty,pos,after,gd⟩::rest) C K N :=
 DQ.callsE (fs:=fun _=>[]) (cs:=fun _=>[]) (R:=fun _=>Rq) (vf:=fun _ x=>.slice (some ⟨x 0,0,none⟩) m m) (Nf:=fun _ x=>[⟨x 0,t,cs⟩]) (S:=fun _ _=>True) (fun _=>[]) (fun _=>.nil)
  (fun _=>⟨fun _=>0,trivial⟩) (fun _ _=>Fn.weak hc (fun _ h=>h) (fun v N ⟨g,e1,e2⟩=>⟨fun _=>g,e1,e2,trivial⟩)) (fun _=>rfl) ha (fun _=>by simp) (fun _ _ w _=>hR w) Dp.const Dp.const Dp.const k hfl hw hd
end
section
variable (p q g h:Nat)
theorem aap (x:Nat) (H:List Nat) (hx:x<zd) (hq:q<zd) (h0:0<q) (hH:∀ b∈H,b<256) (hl:H.length=32):Fn Tryz.prog 64 [vC p q g h,zj x,.agg (byC H).toArray] Tr (Is (zj (vd q x H))):=by
 have hP:=uD [] x 0 none (by decide);rw[List.nil_append] at hP;have hbl:(be 32 x).length=32:=zk _ _;rw[hbl] at hP;have hN:=fun g3 g5 gR=>pS q fR [.slice (some ⟨g3,0,none⟩) 32 32,.slice (some ⟨g5,0,none⟩) 32 32] [be 32 x,H] gR 0 2 hq h0 (by
  intro X hX;simp only[List.mem_cons,List.not_mem_nil,or_false] at hX
  rcases hX with rfl|rfl
  ·exact tj
  ·exact hH) (by
  simp only[yJ,tc,yM,List.flatMap_cons,List.flatMap_nil,List.length_append,zk,yD,List.length_nil,hl];decide) (by decide)
 have hlt:mx q (yb fR) [be 32 x,H] < zd:=Nat.lt_trans (Nat.mod_lt _ h0) hq;unfold vd;generalize mx q (yb fR) [be 32 x,H]=R at *;have hbH:(byC H).length=32:=by rw[ze,hl]
 refine Fn.enter Tryz.func64 rfl rfl rfl ?_;intro w hw
 repeat (first|refine Tw ?_|(refine Tm ?_;intro _)|exact Tz)
 rename_i g3 g4 g5 g6;refine WC.adrawF [9] 11 (k:=?_)
 iterate 3 (refine DQ.auto (k:=?_))
 refine DQ.acallS (hc:=hP) (hR:=fun _=>Rd.nil) (k:=?_);refine DQ.does (v:=fun _=>.slice (some ⟨g5,0,none⟩) 32 32) (fun s _=>vt rfl) Dp.const ?_;refine DQ.makes (vf:=fun _ g=>.slice (some ⟨g,0,none⟩) 2 2) (t:=105) (cs:=fun s=>[.slice (some ⟨s 3 0,0,none⟩) 32 32,.slice (some ⟨g5,0,none⟩) 32 32]) (fun s _=>zh rfl (by decide) rfl) Dp.const (by intro s s' h;dsimp only;rw[h]<;>decide +kernel) ?_;refine DQ.callE (v:=fun _=>.tuple #[zj R,.int .i64 0]) (fun s=>[⟨s 5 0,105,[.slice (some ⟨s 3 0,0,none⟩) 32 32,.slice (some ⟨g5,0,none⟩) 32 32]⟩,⟨s 3 0,5,byC (be 32 x)⟩]) (fun s=>.cons 5 (.head _) (by decide +kernel) (.cons 3 (by repeat (first|exact .head _|apply List.Mem.tail)) (by decide +kernel) .nil)) (fun s _=>hN (s 3 0) g5 (s 5 0)) (fun s=>rfl) (fun s hC w hm=>⟨Hs.seg Hs.here hm,zV.cons (by have:=RdP.own0 (g:=s 3 0) (c:=32) (X:=be 32 x) (t:=5) hm (Hs.there Hs.here) Om (by decide);rw[hbl] at this;exact this) (zV.cons (by have:=RdP.own0 (g:=g5) (c:=32) (X:=H) (t:=53) hm Hs.a Om (by decide);rw[hl] at this;exact this) zV.nil)⟩) Dp.const ?_
 repeat (first|refine Da ?_|refine Df ?_)
 refine DQ.anil (k:=?_);intro sx _
 repeat (first|refine Ta ?_|(refine Tm ?_;intro _)|refine WO.does yp ?_|refine Tc ?_|exact Tz)
 by_cases hR:R=0
 ·have d:decide (R=0)=true:=decide_eq_true hR;rw[if_pos hR,d]
  repeat (first|refine Ta ?_|(refine Tm ?_;intro _)|refine WO.does (zx (cs:=zb 1) rfl rfl (by kernel_rfl)) ?_|refine Tc ?_|exact Tz)
 ·have d:decide (R=0)=false:=decide_eq_false hR;rw[if_neg hR,d]
  repeat (first|refine Tw ?_|(refine Tm ?_;intro _)|exact Tz)
end
theorem RdF.get {α:Type} {f:α→List Value} {pz:Option Addr} {n c:Nat} {xs:List α} {w:World} (h:RdF f (.slice pz n c) xs w) {i:Nat} {x:α} (hx:xs[i]?=some x):∃ b o,pz=some ⟨b,o,none⟩∧n=xs.length∧Seg w b o (xs.flatMap f):=by
 obtain⟨p,c',e,h⟩:=h;cases e
 rcases h with ⟨_,rfl⟩|⟨b,o,rfl,hs⟩
 ·simp at hx
 ·exact⟨b,o,rfl,rfl,hs⟩
section
variable (p q g h:Nat) (f sec:Int) (ns:Value)
theorem cW (x key:Nat) (hx:x<zd) (hk:key<zd) (hp:p<zd) (hq:q<zd) (hg:g<zd) :
  Fn Tryz.prog 61 [stV p q g h f sec ns,zj x,zj key] Tr (Is (.bool (acU p q g x key))):=by
 have hE:=v7 p q g h g x hg hx hp;simp only[rE] at hE;have hEl:okV (yq p g) (g ^ x%p)<zd:=tz (n:=x) (a:=g) hp;have hS:acU p q g x key=(tP q [x] && yq p g && decide (okV (yq p g) (g ^ x%p)=key)):=by
  rw[acB];congr 2;unfold zE tP;simp
 have d1:=ad8 (yq p g);generalize okV (yq p g) (g ^ x%p)=y at *;generalize okE (yq p g)=e at *;rw[hS,← d1];clear hS;cases hb:tP q [x] with
 | true =>
  have hA:=fun b=>jo p q g h [x] (some ⟨b,0,none⟩) 1 0 (by simpa using hx) (by show 1≤1099511627776;omega) hq (tW (by decide)) hb (by have:=(uE hb).1;omega);generalize yA [x] 0%q=V at *;rw[Bool.true_and];refine Fn.enter Tryz.func61 rfl rfl rfl ?_;intro w hw
  repeat (first|refine Ta ?_|(refine Tm ?_;intro _)|(refine WO.makes (zh (cs:=zb x) rfl (by decide) rfl) ?_;intro _)|refine WO.acallR (hc:=hA _) (hR:=fun w hm=>RdF.seg (f:=zb) (xs:=[x]) (r:=[]) (Hs.sg hm)) (k:=?_)|refine WO.acall (hc:=hE) (k:=?_)|refine WO.does (yp (ha:=hEl) (hb:=hk)) ?_|refine Tc ?_|exact Tz)
  by_cases he:e=0
  ·have d:decide (e=0)=true:=decide_eq_true he;rw[d,Bool.true_and]
   repeat (first|refine Ta ?_|(refine Tm ?_;intro _)|refine WO.does (yp (ha:=hEl) (hb:=hk)) ?_|refine Tc ?_|exact Tz)
  ·have d:decide (e=0)=false:=decide_eq_false he;rw[d,Bool.false_and]
   repeat (first|refine Tw ?_|(refine Tm ?_;intro _)|exact Tz)
 | false =>
  have hA:=fun b=>aaq p q g h [x] (some ⟨b,0,none⟩) 1 0 (by simpa using hx) (by show 1≤1099511627776;omega) hq (tW (by decide)) (by rw[hb,Bool.false_and]);rw[Bool.false_and,Bool.false_and];refine Fn.enter Tryz.func61 rfl rfl rfl ?_;intro w hw
  repeat (first|refine Ta ?_|(refine Tm ?_;intro _)|(refine WO.makes (zh (cs:=zb x) rfl (by decide) rfl) ?_;intro _)|refine WO.acallR (hc:=hA _) (hR:=fun w hm=>RdF.seg (f:=zb) (xs:=[x]) (r:=[]) (Hs.sg hm)) (k:=?_)|refine WO.acall (hc:=hE) (k:=?_)|refine Tc ?_|exact Tz)
  done
end
def lgV (g n:Nat):Nat→Value
 | 0=>.slice none 0 0
 | _+1=>.slice (some ⟨g,0,none⟩) n n
def lgL (g:Nat) (B:List Nat):Nat→List Ent
 | 0=>[]
 | _+1=>[⟨g,5,byC B⟩]
theorem qU (l:List Nat) (pz:Option Addr) (c:Nat) (hl:l≠[]) (hn:l.length≤8589934592) :
  Fn Tryz.prog 29 [.slice pz l.length c] (RdF zb (.slice pz l.length c) l) (dQ 5 (l.flatMap (be 32)).length (byC (l.flatMap (be 32)))):=by
 refine Fn.enter Tryz.func29 rfl rfl rfl ?_;intro w hw
 repeat (first|refine Tw ?_|(refine Tm ?_;intro _)|exact Tz)
 refine WC.loopI (σ:=Nat × Nat) (fun s=>s.1≤l.length) (fun s=>[(2,lgV s.2 ((l.take s.1).flatMap (be 32)).length s.1),(5,.slice pz l.length c),(6,.int .i64 (l.length:Int)),(7,.int .i64 (s.1:Int))])
  (fun s=>lgL s.2 ((l.take s.1).flatMap (be 32)) s.1) (fun s=>l.length - s.1) (0,0) (fun s hi=>?_) (Nat.zero_le _)
 obtain⟨i,g⟩:=s
 try dsimp only at hi ⊢
 by_cases hlt:i<l.length
 ·obtain⟨x,hx⟩ : ∃ x,l[i]?=some x:=⟨_,List.getElem?_eq_getElem hlt⟩;obtain⟨b,o,rfl,_,hs⟩:=hw.get hx;have hadd2:IntKind.i64.wrap ((i:Int)+1)=((i+1:Nat):Int):=zn Om Om Om;have hcx:cut (l.flatMap zb) (o+i*4 - o) 4=zb x:=by rw[Nat.add_sub_cancel_left];exact zQ ya hx
  have hst:(l.take i).flatMap (be 32)++be 32 x=(l.take (i+1)).flatMap (be 32):=by rw[List.take_add_one,hx];simp
  have hBl:((l.take i).flatMap (be 32)).length≤549755813888:=by rw[uh,List.length_take];omega
  generalize hB2:(l.take (i+1)).flatMap (be 32)=B2 at *
  rcases i with _|i
  ·have hP:=uD [] x 0 none (by decide);rw[show []++be 32 x=B2 by rw[← hst];rfl] at hP
   repeat (first|refine Tw ?_|(refine Tm ?_;intro _)|exact Tz)
   refine WC.dT rfl Om ?_
   repeat (first|refine Ta ?_|(refine Tm ?_;intro _)|refine WO.does (zc (o':=o+0*4) rfl rfl hlt rfl) ?_|refine WO.does (zm (vs:=zb x) (hs:=hs) (hle:=Nat.le_add_right _ _) (hc:=hcx)) ?_|refine WO.acallN (hc:=hP) (hR:=fun _ _=>Rd.nil) (k:=fun g'=>?_)|refine Tc ?_|exact Tz)
   repeat (first|refine Ta ?_|(refine Tm ?_;intro _)|refine WO.does (zi rfl rfl hadd2) ?_|refine Tc ?_|exact Tz)
   subst hB2;exact WX.metI (1,g') (hs:=⟨by show 0+1≤l.length;omega,by show l.length - (0+1)<l.length - 0;omega⟩)
  ·have hP:=uD ((l.take (i+1)).flatMap (be 32)) x ((l.take (i+1)).flatMap (be 32)).length (some ⟨g,0,none⟩) hBl;rw[hst] at hP;generalize (l.take (i+1)).flatMap (be 32)=B1 at *
   try dsimp only[lgV,lgL]
   repeat (first|refine Tw ?_|(refine Tm ?_;intro _)|exact Tz)
   refine WC.dT rfl Om ?_
   repeat (first|refine Ta ?_|(refine Tm ?_;intro _)|refine WO.does (zc (o':=o+(i+1)*4) rfl rfl hlt rfl) ?_|refine WO.does (zm (vs:=zb x) (hs:=hs) (hle:=Nat.le_add_right _ _) (hc:=hcx)) ?_|refine WO.acallN (hc:=hP) (hR:=fun w1 hm=>Rd.of (Hs.sg hm)) (k:=fun g'=>?_)|refine Tc ?_|exact Tz)
   repeat (first|refine Ta ?_|(refine Tm ?_;intro _)|refine WO.does (zi rfl rfl hadd2) ?_|refine Tc ?_|exact Tz)
   subst hB2;exact WX.metI (i+1+1,g') (hs:=⟨by show i+1+1≤l.length;omega,by show l.length - (i+1+1)<l.length - (i+1);omega⟩)
 ·have hi2:i=l.length:=by omega
  subst hi2;rw[List.take_length];cases l with
  | nil=>exact absurd rfl hl
  | cons a r =>
   try dsimp only[lgV,lgL,List.length_cons]
   repeat (first|refine Tw ?_|(refine Tm ?_;intro _)|exact Tz)
   refine WC.dF rfl Om ?_
   repeat (first|refine Tw ?_|(refine Tm ?_;intro _)|exact Tz)
   exact WX.retN
section
open Kp
variable {P:Program} {w0:World} {gs:List Nat} {n:Nat} {fl:List Nat} {Q:Exit→Act→World→Prop} {ops:List Oper} {L0:List Ent}
variable {tail rest:List Oper} {i:Nat} {C:zI→Prop} {K:zI→List (Nat × Value)} {N:zI→List (Nat × Ent)}
variable {d:Nat} {op:Op} {ty:TypeId} {pos:String} {after:Array Edge} {gd:Option (Nat × Bool)}
theorem DQ.acallSR {f:FuncId} [Cal P f] {xs:Array Operand} {ats:Array TypeId} {vs:List Value} {Rq:World→Prop} {t m:Nat} {cs:List Value} (hc:Fn P f vs Rq (dQ t m cs)) (hR:∀ w,Mr w0 gs L0 w→Rq w) (ha:∀ s,evs (K s) xs.toList=some vs:=by (intro s;rfl))
  (k:DQ P w0 gs n fl Q ops L0 tail (i+1) rest (fun s=>C s∧True) (fun s=>(d,.slice (some ⟨s i 0,0,none⟩) m m)::K s) (fun s=>(i,⟨s i 0,t,cs⟩)::N s))
  (hfl:fl.contains i=false:=by rfl) (hw:∀ s,wk ops (K s) gd=some true:=by intro _;rfl) (hd:Nat.blt d n=true:=by rfl) :
  DQ P w0 gs n fl Q ops L0 tail i (⟨some d,.call { callee:=.value (.func f),args:=xs,argTypes:=ats },ty,pos,after,gd⟩::rest) C K N :=
 DQ.callsE (fs:=fun _=>[]) (cs:=fun _=>[]) (R:=fun _=>Rq) (vf:=fun _ x=>.slice (some ⟨x 0,0,none⟩) m m) (Nf:=fun _ x=>[⟨x 0,t,cs⟩]) (S:=fun _ _=>True) (fun _=>[]) (fun _=>.nil)
  (fun _=>⟨fun _=>0,trivial⟩) (fun _ _=>Fn.weak hc (fun _ h=>h) (fun v N ⟨g,e1,e2⟩=>⟨fun _=>g,e1,e2,trivial⟩)) (fun _=>rfl) ha (fun _=>by simp) (fun _ _ w h=>hR w h) Dp.const Dp.const Dp.const k hfl hw hd
end
theorem jh {d:Nat} (hd:d<256):byC (be 1 d)=[.int .u8 (d:Int)]:=by rw[db hd];simp[byC]
def agV (g c n:Nat):Nat→Value
 | 0=>.slice none 0 0
 | _+1=>.slice (some ⟨g,0,none⟩) n c
def agL (g:Nat) (B:List Nat) (r:List Value):Nat→List Ent
 | 0=>[]
 | _+1=>[⟨g,5,byC B++r⟩]
abbrev be2 (k:Nat × Nat):List Nat:=be 32 k.1++be 32 k.2
theorem u9 (ep d:Nat) (sC sS:Nat) (pV pY pP:Option Addr) (cV cY cP:Nat) (V Y:List Nat) (Pr:List (Nat × Nat)) (hd:d<256) (hV:V≠[]) (hY:Y≠[]) (hP:Pr≠[]) (hVl:V.length≤1000) (hYl:Y.length≤1000) (hPl:Pr.length≤1000) :
  Fn Tryz.prog 11 [dlV ep d (.slice pV V.length cV) (.slice pY Y.length cY) (.slice pP Pr.length cP) sC sS]
   (fun w=>RdF zb (.slice pV V.length cV) V w∧RdF zb (.slice pY Y.length cY) Y w∧RdF pfC (.slice pP Pr.length cP) Pr w) (Is (.agg (byC (yN ep d V Y Pr)).toArray)):=by
 have hLV:=qU V pV cV hV Om;have hLY:=qU Y pY cY hY Om;have hP0:=iw [] ep 8 0 none (by decide) (by decide);rw[List.nil_append,zk] at hP0;have hHl:(yJ (yb vc) [be 8 ep++be 1 d,V.flatMap (be 32),Y.flatMap (be 32),Pr.flatMap be2]).length≤1152921504606840000:=by
  simp only[yJ,tc,yM,List.flatMap_cons,List.flatMap_nil,List.length_append,zk,yD,List.length_nil,uh,uU];have:vc.size=7:=by decide
  omega
 have hO:=fun g1 c1 g2 g3 gA cA gR=>c9 vc [.slice (some ⟨g1,0,none⟩) 9 c1,.slice (some ⟨g2,0,none⟩) (V.flatMap (be 32)).length (V.flatMap (be 32)).length,.slice (some ⟨g3,0,none⟩) (Y.flatMap (be 32)).length (Y.flatMap (be 32)).length,.slice (some ⟨gA,0,none⟩) (Pr.flatMap be2).length cA]
  [be 8 ep++be 1 d,V.flatMap (be 32),Y.flatMap (be 32),Pr.flatMap be2] gR 0 4 rJ hHl (by decide)
 rw[show hOf (yb vc) [be 8 ep++be 1 d,V.flatMap (be 32),Y.flatMap (be 32),Pr.flatMap be2]=yN ep d V Y Pr from rfl] at hO;have hHlen:(byC (yN ep d V Y Pr)).length=32:=by rw[ze];exact yW _ _
 have hVc:(V.flatMap (be 32)).length<9223372036854775808:=by rw[uh];omega
 have hYc:(Y.flatMap (be 32)).length<9223372036854775808:=by rw[uh];omega
 generalize yN ep d V Y Pr=H at *;generalize V.flatMap (be 32)=VB at *;generalize Y.flatMap (be 32)=YB at *;have h9:byC (be 8 ep)++[Value.int .u8 (d:Int)]=byC (be 8 ep++be 1 d):=by rw[zS,jh hd]
 refine Fn.enter Tryz.func11 rfl rfl rfl ?_;intro w hw;obtain⟨wV,wY,wP⟩:=hw
 repeat (first|refine Tw ?_|(refine Tm ?_;intro _)|exact Tz)
 rename_i gD gH
 refine WC.loopI (σ:=Nat × Nat × Nat × List Value) (fun s=>s.1≤Pr.length∧(0<s.1→(byC ((Pr.take s.1).flatMap be2)++s.2.2.2).length=s.2.2.1∧s.2.2.1<9223372036854775808)) (fun s=>[(1,pt gD),(2,pt gH),(3,agV s.2.1 s.2.2.1 (s.1*64) s.1),(7,.slice pP Pr.length cP),(8,.int .i64 (Pr.length:Int)),(9,.int .i64 (s.1:Int))])
  (fun s=>agL s.2.1 ((Pr.take s.1).flatMap be2) s.2.2.2 s.1++[⟨gH,53,byC (List.replicate 32 0)⟩,⟨gD,47,dlC ep d (.slice pV V.length cV) (.slice pY Y.length cY) (.slice pP Pr.length cP) sC sS⟩]) (fun s=>Pr.length - s.1) (0,0,0,[]) (fun s hi=>?_) ⟨Nat.zero_le _,fun h=>absurd h (by decide)⟩
 obtain⟨i,gA,cA,r⟩:=s
 try dsimp only at hi ⊢
 obtain⟨hi,hr⟩:=hi
 by_cases hlt:i<Pr.length
 ·obtain⟨x,hx⟩ : ∃ x,Pr[i]?=some x:=⟨_,List.getElem?_eq_getElem hlt⟩;obtain⟨b,o,rfl,_,hs⟩:=wP.get hx;have hadd2:IntKind.i64.wrap ((i:Int)+1)=((i+1:Nat):Int):=zn Om Om Om;have hcx:cut (Pr.flatMap pfC) (o+i*8 - o) 8=pfC x:=by rw[Nat.add_sub_cancel_left];exact zQ qd hx
  have hst:(Pr.take i).flatMap be2++be2 x=(Pr.take (i+1)).flatMap be2:=by rw[List.take_add_one,hx];simp
  have hB1:((Pr.take i).flatMap be2).length=i*64:=by rw[uU,List.length_take];omega
  have hL:=fun g=>qU [x.1,x.2] (some ⟨g,0,none⟩) 2 (by simp) (by show 2≤8589934592;omega);rw[show [x.1,x.2].flatMap (be 32)=be2 x by simp] at hL;have h64:(be2 x).length=64:=by rw[List.length_append,zk,zk]
  rw[h64] at hL;have hyl:(byC (be2 x)).length=64 * [Value.int .u8 0].length:=by rw[ze,h64];rfl
  generalize hB2:(Pr.take (i+1)).flatMap be2=B2 at *
  rcases i with _|i
  ·try dsimp only[agV,agL,List.nil_append]
   have hst' : be2 x=B2:=by rw[← hst];rfl
   repeat (first|refine Tw ?_|(refine Tm ?_;intro _)|exact Tz)
   refine WC.dT rfl Om ?_
   repeat (first|refine Ta ?_|(refine Tm ?_;intro _)|refine WO.does (zc (o':=o+0*8) rfl rfl hlt rfl) ?_|refine WO.does (zm (vs:=pfC x) (hs:=hs) (hle:=Nat.le_add_right _ _) (hc:=hcx)) ?_|(refine WO.makes (zh (cs:=zb x.1++zb x.2) rfl (by decide) rfl) ?_;intro _)|refine WO.acallN (hc:=hL _) (hR:=fun w1 hm=>RdF.seg (f:=zb) (xs:=[x.1,x.2]) (r:=[]) (Hs.sg hm)) (k:=fun g'=>?_)|refine Tc ?_|exact Tz)
   refine WO.appN (z:=[Value.int .u8 0]) (m:=64) rfl rfl rfl (Rds.own (m:=64) Hs.here (zA (by rw[ze,h64]))) hyl (by decide) (by decide) (by decide) (by decide) (fun g1 c1 r1 a1 a2 a3=>?_);rw[hst']
   repeat (first|refine Ta ?_|(refine Tm ?_;intro _)|refine WO.does (zi rfl rfl hadd2) ?_|refine Tc ?_|exact Tz)
   subst hB2;exact WX.metI (1,g1,c1,r1) (hs:=⟨⟨by show 0+1≤Pr.length;omega,fun _=>⟨by rw[← hst',a1];exact Nat.mul_one _,a2⟩⟩,by show Pr.length - (0+1)<Pr.length - 0;omega⟩)
  ·obtain⟨r1,r2⟩:=hr Om;generalize (Pr.take (i+1)).flatMap be2=B1 at *
   try dsimp only[agV,agL,List.cons_append,List.nil_append]
   repeat (first|refine Tw ?_|(refine Tm ?_;intro _)|exact Tz)
   refine WC.dT rfl Om ?_
   repeat (first|refine Ta ?_|(refine Tm ?_;intro _)|refine WO.does (zc (o':=o+(i+1)*8) rfl rfl hlt rfl) ?_|refine WO.does (zm (vs:=pfC x) (hs:=hs) (hle:=Nat.le_add_right _ _) (hc:=hcx)) ?_|(refine WO.makes (zh (cs:=zb x.1++zb x.2) rfl (by decide) rfl) ?_;intro _)|refine WO.acallN (hc:=hL _) (hR:=fun w1 hm=>RdF.seg (f:=zb) (xs:=[x.1,x.2]) (r:=[]) (Hs.sg hm)) (k:=fun g'=>?_)|refine Tc ?_|exact Tz)
   refine WO.appK (z:=[Value.int .u8 0]) (m:=64) (l:=(i+1+1)*64) rfl rfl rfl (xs:=byC B1) (r:=r) (by rw[ze,hB1];exact (Nat.mul_one _).symm) (by rw[r1];exact (Nat.mul_one _).symm) Pk.a (Rds.own (m:=64) Hs.here (zA (by rw[ze,h64]))) hyl (zT _) Om Om r2 Om (by decide) (by decide) (fun g1 c1 r1 a1 a2 a3=>?_);rw[← zS,hst] at a1 ⊢
   repeat (first|refine Ta ?_|(refine Tm ?_;intro _)|refine WO.does (zi rfl rfl hadd2) ?_|refine Tc ?_|exact Tz)
   subst hB2;exact WX.metI (i+1+1,g1,c1,r1) (hs:=⟨⟨by show i+1+1≤Pr.length;omega,fun _=>⟨by rw[a1];exact Nat.mul_one _,a2⟩⟩,by show Pr.length - (i+1+1)<Pr.length - (i+1);omega⟩)
 ·have hi2:i=Pr.length:=by omega
  subst hi2;have hPn:0<Pr.length:=List.length_pos_iff.2 hP;obtain⟨r1,r2⟩:=hr hPn;rw[List.take_length] at *;have hBl:(Pr.flatMap be2).length=Pr.length*64:=uU _;rw[← hBl];have hAV:agV gA cA (Pr.flatMap be2).length Pr.length=.slice (some ⟨gA,0,none⟩) (Pr.flatMap be2).length cA:=by
   obtain⟨k,hk⟩ : ∃ k,Pr.length=k+1:=⟨Pr.length - 1,by omega⟩;rw[hk];rfl
  have hAL:agL gA (Pr.flatMap be2) r Pr.length=[⟨gA,5,byC (Pr.flatMap be2)++r⟩]:=by
   obtain⟨k,hk⟩ : ∃ k,Pr.length=k+1:=⟨Pr.length - 1,by omega⟩;rw[hk];rfl
  have hcA:(Pr.flatMap be2).length≤cA:=by rw[← r1,List.length_append,ze];omega
  rw[hAV,hAL];generalize Pr.flatMap be2=PB at *
  try dsimp only[List.cons_append,List.nil_append]
  repeat (first|refine Tw ?_|(refine Tm ?_;intro _)|exact Tz)
  refine WC.dF rfl Om ?_
  repeat (first|refine Tw ?_|(refine Tm ?_;intro _)|exact Tz)
  refine WC.adraw 16 (k:=?_)
  iterate 2 (refine DQ.auto (k:=?_))
  refine DQ.acallS (hc:=hP0) (hR:=fun _=>Rd.nil) (k:=?_)
  iterate 2 (refine DQ.auto (k:=?_))
  refine DQ.makes (vf:=fun _ g=>.slice (some ⟨g,0,none⟩) 1 1) (t:=5) (cs:=fun _=>[.int .u8 (d:Int)]) (fun s _=>zh rfl (by decide) rfl) Dp.const Dp.const ?_
  refine DQ.newsE (vf:=fun _ x=>.slice (some ⟨x 0,0,none⟩) 9 (x 1)) (Nf:=fun _ x=>[⟨x 0,5,byC (be 8 ep)++[.int .u8 (d:Int)]++mkz (x 1 - 9) [.int .u8 0]⟩]) (S:=fun _ x=>9≤x 1∧x 1<9223372036854775808)
   (fun s=>[⟨s 5 0,5,[.int .u8 (d:Int)]⟩,⟨s 2 0,5,byC (be 8 ep)⟩]) (fun s=>.cons 5 (.head _) (by decide +kernel) (.cons 2 (by repeat (first|exact .head _|apply List.Mem.tail)) (by decide +kernel) .nil)) (fun _=>⟨fun _=>9,by decide,by decide⟩)
   (fun s _=>uy (z:=[Value.int .u8 0]) (len:=8) (n:=1) rfl rfl (ys:=byC (be 8 ep)) (Rds.own (m:=8) (Hs.there Hs.here) (zA (by rw[ze,zk]))) (by rw[ze,zk];rfl) (xs:=[.int .u8 (d:Int)]) (Rds.own (m:=1) Hs.here rfl) rfl (by decide) (by decide) (by decide) (by decide) rfl) Dp.const Dp.const Dp.const ?_
  try dsimp only[List.map_cons,List.map_nil,List.cons_append,List.nil_append]
  iterate 2 (refine DQ.auto (k:=?_))
  refine DQ.acallSR (hc:=hLV) (hR:=fun w hm=>wV.mod hm.mod) (k:=?_)
  iterate 2 (refine DQ.auto (k:=?_))
  refine DQ.acallSR (hc:=hLY) (hR:=fun w hm=>wY.mod hm.mod) (k:=?_);refine DQ.auto (k:=?_);refine DQ.makes (vf:=fun _ g=>.slice (some ⟨g,0,none⟩) 4 4) (t:=105) (cs:=fun s=>[.slice (some ⟨s 6 0,0,none⟩) 9 (s 6 1),.slice (some ⟨s 9 0,0,none⟩) VB.length VB.length,.slice (some ⟨s 12 0,0,none⟩) YB.length YB.length,.slice (some ⟨gA,0,none⟩) PB.length cA]) (fun s _=>zh rfl (by decide) rfl) Dp.const (by intro s s' h;dsimp only;rw[h,h,h]<;>decide +kernel) ?_
  refine DQ.callE (v:=fun _=>.agg (byC H).toArray) (fun s=>[⟨s 14 0,105,[.slice (some ⟨s 6 0,0,none⟩) 9 (s 6 1),.slice (some ⟨s 9 0,0,none⟩) VB.length VB.length,.slice (some ⟨s 12 0,0,none⟩) YB.length YB.length,.slice (some ⟨gA,0,none⟩) PB.length cA]⟩,⟨s 12 0,5,byC YB⟩,⟨s 9 0,5,byC VB⟩,⟨s 6 0,5,byC (be 8 ep)++[.int .u8 (d:Int)]++mkz (s 6 1 - 9) [.int .u8 0]⟩])
   (fun s=>.cons 14 (.head _) (by decide +kernel) (.cons 12 (by repeat (first|exact .head _|apply List.Mem.tail)) (by decide +kernel) (.cons 9 (by repeat (first|exact .head _|apply List.Mem.tail)) (by decide +kernel) (.cons 6 (by repeat (first|exact .head _|apply List.Mem.tail)) (by decide +kernel) .nil)))) (fun s _=>hO (s 6 0) (s 6 1) (s 9 0) (s 12 0) gA cA (s 14 0)) (fun s=>rfl)
   (fun s hC w hm=>⟨Hs.seg Hs.here hm,zV.cons (by
     have hab:=RdP.own (g:=s 6 0) (c:=s 6 1) (X:=be 8 ep++be 1 d) (r:=mkz (s 6 1 - 9) [Value.int .u8 0]) (t:=5) hm (by rw[← h9];exact Hs.there (Hs.there (Hs.there Hs.here))) (by rw[List.length_append,zk,zk];exact hC.1.1.2.1) hC.1.1.2.2;rw[List.length_append,zk,zk] at hab;exact hab) (zV.cons (RdP.own0 (g:=s 9 0) (X:=VB) (t:=5) hm (Hs.there (Hs.there Hs.here)) (Nat.le_refl _) hVc) (zV.cons (RdP.own0 (g:=s 12 0) (X:=YB) (t:=5) hm (Hs.there Hs.here) (Nat.le_refl _) hYc) (zV.cons (RdP.own (g:=gA) (X:=PB) (r:=r) (t:=5) hm Hs.a hcA r2) zV.nil)))⟩) Dp.const ?_
  refine DQ.anil (k:=?_);intro sx _;refine WO.stores (zz (vs:=byC H) (cs':=byC H) (hl:=hHlen) (h1:=zT _) (hc:=zU (by rw[hHlen];rfl)) (hle:=by rw[hHlen];rfl)) ?_
  repeat (first|refine Tw ?_|(refine Tm ?_;intro _)|exact Tz)
  exact WX.aret1 (hr:=uw (vs:=byC H) (hc:=zA hHlen) (hl:=hHlen)) (hp:=rfl)
section
variable {w0:World} {gs:List Nat} {K:List (Nat × Value)} {L:List Ent}
theorem zt {x y:Operand} {yt ty:TypeId} {a b:Nat} {r:Bool} (hx:ev K x=some (zj a)) (hy:ev K y=some (zj b)) (ha:a<zd) (hb:b<zd) (hr:decide (a=b)=r) :
  Does Tryz.prog w0 gs K L (.binOp .eql 24 x y yt) ty (.bool r):=by
 subst hr;exact yp (hx:=hx) (hy:=hy) (ha:=ha) (hb:=hb)
end
section
variable (p q g h:Nat)
theorem iQ (l:List Nat) (pz:Option Addr) (c:Nat) (hl:∀ a∈l,a<zd) (hn:l.length≤1099511627776) (hq:q<zd) :
  Fn Tryz.prog 127 [vC p q g h,.slice pz l.length c] (RdF zb (.slice pz l.length c) l) (Is (.bool (l.all fun x=>zE x x q))):=by
 refine Fn.enter Tryz.func127 rfl rfl rfl ?_;intro w hw
 repeat (first|refine Tw ?_|(refine Tm ?_;intro _)|exact Tz)
 rename_i gG;refine WC.loopI (σ:=Nat) (fun i=>i≤l.length∧∀ j,j<i→∀ x,l[j]?=some x→zE x x q=true) (fun i=>[(2,pt gG),(9,.slice pz l.length c),(10,.int .i64 (l.length:Int)),(11,.int .i64 (i:Int))]) (fun _=>[⟨gG,26,yB p q g h⟩]) (fun i=>l.length - i) 0 (fun i hi=>?_) ⟨Nat.zero_le _,fun j hj=>by omega⟩
 try dsimp only at hi ⊢
 obtain⟨hi,h0⟩:=hi
 by_cases hlt:i<l.length
 ·obtain⟨x,hx⟩ : ∃ x,l[i]?=some x:=⟨_,List.getElem?_eq_getElem hlt⟩;obtain⟨b,o,rfl,_,hs⟩:=hw.get hx;have hadd2:IntKind.i64.wrap ((i:Int)+1)=((i+1:Nat):Int):=zn Om Om Om;have hcx:cut (l.flatMap zb) (o+i*4 - o) 4=zb x:=by rw[Nat.add_sub_cancel_left];exact zQ ya hx
  have hxb:=hl x (List.mem_of_getElem? hx);have hA:=nH p q g h x x hxb hxb hq;cases hm:zE x x q with
  | true =>
   rw[hm] at hA
   repeat (first|refine Tw ?_|(refine Tm ?_;intro _)|exact Tz)
   refine WC.dT rfl Om ?_
   repeat (first|refine Ta ?_|(refine Tm ?_;intro _)|refine WO.does (zc (o':=o+i*4) rfl rfl hlt rfl) ?_|refine WO.does (zm (vs:=zb x) (hs:=hs) (hle:=Nat.le_add_right _ _) (hc:=hcx)) ?_|refine WO.acall (hc:=hA) (k:=?_)|refine WO.does (zB rfl rfl rfl) ?_|refine WO.does (zi rfl rfl hadd2) ?_|refine Tc ?_|exact Tz)
   refine WX.metI (i+1) (hs:=⟨⟨by show i+1≤l.length;omega,fun j hj y hy=>by
    rcases Nat.lt_or_ge j i with h|h
    ·exact h0 j h y hy
    ·have:j=i:=by omega
     subst this;rw[hx] at hy;cases hy;exact hm⟩,by show l.length - (i+1)<l.length - i;omega⟩)
  | false =>
   rw[hm] at hA;rw[fD hx hm]
   repeat (first|refine Tw ?_|(refine Tm ?_;intro _)|exact Tz)
   refine WC.dT rfl Om ?_
   repeat (first|refine Ta ?_|(refine Tm ?_;intro _)|refine WO.does (zc (o':=o+i*4) rfl rfl hlt rfl) ?_|refine WO.does (zm (vs:=zb x) (hs:=hs) (hle:=Nat.le_add_right _ _) (hc:=hcx)) ?_|refine WO.acall (hc:=hA) (k:=?_)|refine WO.does (vW rfl rfl (by decide)) ?_|refine Tc ?_|exact Tz)
   done
 ·have hi2:i=l.length:=by omega
  rw[dW (P:=fun x=>zE x x q) (by rw[← hi2];exact h0)]
  repeat (first|refine Tw ?_|(refine Tm ?_;intro _)|exact Tz)
  refine WC.dF rfl Om ?_
  repeat (first|refine Tw ?_|(refine Tm ?_;intro _)|exact Tz)
  done
def fI (q key r:Nat) (H:List Nat):Nat:=mx q (yb bi) [be 32 key,be 32 r,H]
theorem jB (key r gG gK gH:Nat) (H:List Nat) (hq:q<zd) (h0:0<q) (hH:∀ b∈H,b<256) (hl:H.length=32) :
  Fn Tryz.prog 168 ([zj r]++[pt gG,pt gK,pt gH]) (fun w=>Seg w gG 0 (yB p q g h)∧Seg w gK 0 (zb key)∧Seg w gH 0 (byC H)) (Is (zj (fI q key r H))):=by
 have hP:=fun x=>uD [] x 0 none (by decide);have hbl:∀ x,(be 32 x).length=32:=fun x=>zk _ _;simp only[List.nil_append,hbl] at hP;have hP1:=hP key;have hP2:=hP r;clear hP;have hN:=fun g3 g5 gR=>pS q bi [.slice (some ⟨g3,0,none⟩) 32 32,.slice (some ⟨g5,0,none⟩) 32 32,.slice (some ⟨gH,0,none⟩) 32 32] [be 32 key,be 32 r,H] gR 0 3 hq h0 (by
  intro X hX;simp only[List.mem_cons,List.not_mem_nil,or_false] at hX
  rcases hX with rfl|rfl|rfl
  ·exact tj
  ·exact tj
  ·exact hH) (by
  simp only[yJ,tc,yM,List.flatMap_cons,List.flatMap_nil,List.length_append,zk,yD,List.length_nil,hl];decide) (by decide)
 rw[show mx q (yb bi) [be 32 key,be 32 r,H]=fI q key r H from rfl] at hN;generalize fI q key r H=R at *;have hbH:(byC H).length=32:=by rw[ze,hl]
 have hrk:=hbl key;have hrr:=hbl r;clear hbl;refine Fn.enter Tryz.func168 rfl rfl rfl ?_;intro w hw;obtain⟨wG,wK,wH⟩:=hw
 repeat (first|refine Tw ?_|(refine Tm ?_;intro _)|exact Tz)
 refine WC.adrawF [11] 13 (k:=?_);refine DQ.auto (k:=?_);refine DQ.does (fun s _=>zm (hs:=wG) (hle:=Nat.zero_le _) (vs:=zb q)) Dp.const ?_;refine DQ.does (fun s _=>zm (hs:=wK) (hle:=Nat.le_refl _) (vs:=zb key)) Dp.const ?_;refine DQ.acallS (hc:=hP1) (hR:=fun _=>Rd.nil) (k:=?_);refine DQ.auto (k:=?_);refine DQ.acallS (hc:=hP2) (hR:=fun _=>Rd.nil) (k:=?_);refine DQ.does (v:=fun _=>.slice (some ⟨gH,0,none⟩) 32 32) (fun s _=>vt rfl) Dp.const ?_;refine DQ.makes (vf:=fun _ g=>.slice (some ⟨g,0,none⟩) 3 3) (t:=105) (cs:=fun s=>[.slice (some ⟨s 3 0,0,none⟩) 32 32,.slice (some ⟨s 5 0,0,none⟩) 32 32,.slice (some ⟨gH,0,none⟩) 32 32]) (fun s _=>zh rfl (by decide) rfl) Dp.const (by intro s s' h;dsimp only;rw[h,h]<;>decide +kernel) ?_
 refine DQ.callE (v:=fun _=>.tuple #[zj R,.int .i64 0]) (fun s=>[⟨s 7 0,105,[.slice (some ⟨s 3 0,0,none⟩) 32 32,.slice (some ⟨s 5 0,0,none⟩) 32 32,.slice (some ⟨gH,0,none⟩) 32 32]⟩,⟨s 5 0,5,byC (be 32 r)⟩,⟨s 3 0,5,byC (be 32 key)⟩])
  (fun s=>.cons 7 (.head _) (by decide +kernel) (.cons 5 (by repeat (first|exact .head _|apply List.Mem.tail)) (by decide +kernel) (.cons 3 (by repeat (first|exact .head _|apply List.Mem.tail)) (by decide +kernel) .nil))) (fun s _=>hN (s 3 0) (s 5 0) (s 7 0)) (fun s=>rfl)
  (fun s hC w hm=>⟨Hs.seg Hs.here hm,zV.cons (by have:=RdP.own0 (g:=s 3 0) (c:=32) (X:=be 32 key) (t:=5) hm (Hs.there (Hs.there Hs.here)) Om (by decide);rw[hrk] at this;exact this) (zV.cons (by have:=RdP.own0 (g:=s 5 0) (c:=32) (X:=be 32 r) (t:=5) hm (Hs.there Hs.here) Om (by decide);rw[hrr] at this;exact this)
   (zV.cons ⟨some ⟨gH,0,none⟩,32,by rw[hl],by omega,by decide,.inr ⟨gH,0,rfl,by
    have h1:(byC H)[0]?=some (.int .u8 ((H[0]' Om:Nat):Int)):=lQ Om;exact pF ((wH.mod hm.mod (by simp)) 0 _ h1),wH.mod hm.mod (by simp)⟩⟩ zV.nil))⟩) Dp.const ?_
 repeat (first|refine Da ?_|refine Df ?_)
 refine DQ.anil (k:=?_);intro sx _
 repeat (first|refine Tw ?_|(refine Tm ?_;intro _)|exact Tz)
 done
end
theorem aa8 (l:List Nat) (pz:Option Addr) (c:Nat) (hn:l.length≤8589934592) :
  Fn Tryz.prog 29 [.slice pz l.length c] (RdF zb (.slice pz l.length c) l) (Ex (fun s=>lgV (s 0) (l.flatMap (be 32)).length l.length) (fun s=>lgL (s 0) (l.flatMap (be 32)) l.length) (fun _=>True)):=by
 by_cases hl:l=[]
 ·subst hl;refine Fn.enter Tryz.func29 rfl rfl rfl ?_;intro w hw
  repeat (first|refine Tw ?_|(refine Tm ?_;intro _)|exact Tz)
  refine WC.loopI (σ:=Unit) (fun _=>True) (fun _=>[(2,.slice none 0 0),(6,.int .i64 0),(7,.int .i64 0)]) (fun _=>[]) (fun _=>0) () (fun _ _=>?_) trivial
  try dsimp only
  repeat (first|refine Tw ?_|(refine Tm ?_;intro _)|exact Tz)
  exact WX.ret1 rfl (by exact zo rfl) [] Lle.nil ⟨fun _=>0,rfl,rfl,trivial⟩
 ·have h:=qU l pz c hl hn;obtain⟨k,hk⟩ : ∃ k,l.length=k+1:=⟨l.length - 1,by have:=List.length_pos_iff.2 hl;omega⟩;exact h.weak (fun _ h=>h) (fun v N hv=>by
   obtain⟨g,h1,h2⟩:=hv;refine⟨fun _=>g,?_,?_,trivial⟩
   ·rw[hk];exact h1
   ·rw[hk];exact h2)
end Sx
end
section
open Go Go.RowKit Go.BigFrame
namespace Sx
theorem WO.permA {P:Program} {w0:World} {gs:List Nat} {n:Nat} {ops rest:List Oper} {Q:Exit→Act→World→Prop} {K:List (Nat × Value)} {L L' : List Ent} (hp:L.Perm L') (k:WO P w0 gs n ops Q K L' rest):WO P w0 gs n ops Q K L rest:=fun a w h1 h2 h3 h4=>k a w h1 h2 h3 (h4.perm hp)
attribute [local irreducible] wd DQ WO WC WX
def lgP (g:Nat):Nat→Option Addr
 | 0=>none
 | _+1=>some ⟨g,0,none⟩
theorem Hs.right {L:List Ent} {g t:Nat} {cs:List Value}:∀ {M:List Ent},Hs L g t cs→Hs (M++L) g t cs
 | [],h=>h
 | _::_,h=>.there (Hs.right h)
theorem Hs.left {L:List Ent} {g t:Nat} {cs:List Value}:∀ {M:List Ent},Hs M g t cs→Hs (M++L) g t cs:=fun h=>by
 induction h with
 | here=>exact .here
 | there _ ih=>exact .there ih
theorem Vs.lg {ops:List Oper} {i:Nat} {N:List (Nat × Ent)} {E:List Ent} {g n:Nat} {B:List Nat} (j:Nat) (h:∀ k,n=k+1→(j,(⟨g,5,byC B⟩ : Ent))∈N) (ha:Kp.anc ops i j=true) (hE:Vs ops i N E):Vs ops i N (lgL g B n++E):=by
 cases n with
 | zero=>exact hE
 | succ k=>exact .cons j (h k rfl) ha hE
theorem RdP.lg {w0 w:World} {gs:List Nat} {L:List Ent} (hm:Mr w0 gs L w) {g n:Nat} {X:List Nat} (hn:X.length=n*32) (h:∀ k,n=k+1→Hs L g 5 (byC X)) (hc:X.length<9223372036854775808):RdP (.slice (lgP g n) X.length X.length) X w:=by
 cases n with
 | zero =>
  obtain rfl:X=[]:=List.length_eq_zero_iff.1 Om;exact⟨none,0,rfl,Nat.le_refl _,by decide,.inl ⟨rfl,rfl⟩⟩
 | succ k=>exact RdP.own0 (g:=g) (X:=X) (t:=5) hm (h k rfl) (Nat.le_refl _) hc
theorem RdP.ag {w0 w:World} {gs:List Nat} {L:List Ent} (hm:Mr w0 gs L w) {g n c:Nat} {X:List Nat} {r:List Value} (hn:X.length=n*64) (h:∀ k,n=k+1→Hs L g 5 (byC X++r)) (hle:X.length≤c) (hc:c<9223372036854775808):RdP (.slice (lgP g n) X.length c) X w:=by
 cases n with
 | zero =>
  obtain rfl:X=[]:=List.length_eq_zero_iff.1 Om;exact⟨none,c,rfl,hle,hc,.inl ⟨rfl,rfl⟩⟩
 | succ k=>exact RdP.own (g:=g) (X:=X) (r:=r) (t:=5) hm (h k rfl) hle hc
theorem eM (l:List Nat) (pz:Option Addr) (c:Nat) (hn:l.length≤8589934592) :
  Fn Tryz.prog 29 [.slice pz l.length c] (RdF zb (.slice pz l.length c) l) (Ex (fun s=>.slice (lgP (s 0) l.length) (l.flatMap (be 32)).length (l.flatMap (be 32)).length) (fun s=>lgL (s 0) (l.flatMap (be 32)) l.length) (fun _=>True)) :=
 (aa8 l pz c hn).weak (fun _ h=>h) (fun v N ⟨s,h1,h2,_⟩=>⟨s,by
  rw[h1];cases l with
  | nil=>rfl
  | cons a r=>rfl,h2,trivial⟩)
theorem ce (ep d:Nat) (sC sS:Nat) (pV pY pP:Option Addr) (cV cY cP:Nat) (V Y:List Nat) (Pr:List (Nat × Nat)) (hd:d<256) (hVl:V.length≤1000) (hYl:Y.length≤1000) (hPl:Pr.length≤1000) :
  Fn Tryz.prog 11 [dlV ep d (.slice pV V.length cV) (.slice pY Y.length cY) (.slice pP Pr.length cP) sC sS]
   (fun w=>RdF zb (.slice pV V.length cV) V w∧RdF zb (.slice pY Y.length cY) Y w∧RdF pfC (.slice pP Pr.length cP) Pr w) (Is (.agg (byC (yN ep d V Y Pr)).toArray)):=by
 have hLV:=eM V pV cV Om;have hLY:=eM Y pY cY Om;have hP0:=iw [] ep 8 0 none (by decide) (by decide);rw[List.nil_append,zk] at hP0;have hHl:(yJ (yb vc) [be 8 ep++be 1 d,V.flatMap (be 32),Y.flatMap (be 32),Pr.flatMap be2]).length≤1152921504606840000:=by
  simp only[yJ,tc,yM,List.flatMap_cons,List.flatMap_nil,List.length_append,zk,yD,List.length_nil,uh,uU];have:vc.size=7:=by decide
  omega
 have hO:=fun g1 c1 g2 g3 gA cA gR=>c9 vc [.slice (some ⟨g1,0,none⟩) 9 c1,.slice (lgP g2 V.length) (V.flatMap (be 32)).length (V.flatMap (be 32)).length,.slice (lgP g3 Y.length) (Y.flatMap (be 32)).length (Y.flatMap (be 32)).length,.slice (lgP gA Pr.length) (Pr.flatMap be2).length cA]
  [be 8 ep++be 1 d,V.flatMap (be 32),Y.flatMap (be 32),Pr.flatMap be2] gR 0 4 rJ hHl (by decide)
 rw[show hOf (yb vc) [be 8 ep++be 1 d,V.flatMap (be 32),Y.flatMap (be 32),Pr.flatMap be2]=yN ep d V Y Pr from rfl] at hO;have hHlen:(byC (yN ep d V Y Pr)).length=32:=by rw[ze];exact yW _ _
 have hVc:(V.flatMap (be 32)).length<9223372036854775808:=by rw[uh];omega
 have hYc:(Y.flatMap (be 32)).length<9223372036854775808:=by rw[uh];omega
 generalize yN ep d V Y Pr=H at *;have hVm:(V.flatMap (be 32)).length=V.length*32:=uh _;have hYm:(Y.flatMap (be 32)).length=Y.length*32:=uh _;generalize V.flatMap (be 32)=VB at *;generalize Y.flatMap (be 32)=YB at *;have h9:byC (be 8 ep)++[Value.int .u8 (d:Int)]=byC (be 8 ep++be 1 d):=by rw[zS,jh hd]
 refine Fn.enter Tryz.func11 rfl rfl rfl ?_;intro w hw;obtain⟨wV,wY,wP⟩:=hw
 repeat (first|refine Tw ?_|(refine Tm ?_;intro _)|exact Tz)
 rename_i gD gH
 refine WC.loopI (σ:=Nat × Nat × Nat × List Value) (fun s=>s.1≤Pr.length∧(0<s.1→(byC ((Pr.take s.1).flatMap be2)++s.2.2.2).length=s.2.2.1∧s.2.2.1<9223372036854775808)) (fun s=>[(1,pt gD),(2,pt gH),(3,agV s.2.1 s.2.2.1 (s.1*64) s.1),(7,.slice pP Pr.length cP),(8,.int .i64 (Pr.length:Int)),(9,.int .i64 (s.1:Int))])
  (fun s=>⟨gH,53,byC (List.replicate 32 0)⟩::⟨gD,47,dlC ep d (.slice pV V.length cV) (.slice pY Y.length cY) (.slice pP Pr.length cP) sC sS⟩::agL s.2.1 ((Pr.take s.1).flatMap be2) s.2.2.2 s.1) (fun s=>Pr.length - s.1) (0,0,0,[]) (fun s hi=>?_) ⟨Nat.zero_le _,fun h=>absurd h (by decide)⟩
 obtain⟨i,gA,cA,r⟩:=s
 try dsimp only at hi ⊢
 obtain⟨hi,hr⟩:=hi
 by_cases hlt:i<Pr.length
 ·obtain⟨x,hx⟩ : ∃ x,Pr[i]?=some x:=⟨_,List.getElem?_eq_getElem hlt⟩;obtain⟨b,o,rfl,_,hs⟩:=wP.get hx;have hadd2:IntKind.i64.wrap ((i:Int)+1)=((i+1:Nat):Int):=zn Om Om Om;have hcx:cut (Pr.flatMap pfC) (o+i*8 - o) 8=pfC x:=by rw[Nat.add_sub_cancel_left];exact zQ qd hx
  have hst:(Pr.take i).flatMap be2++be2 x=(Pr.take (i+1)).flatMap be2:=by rw[List.take_add_one,hx];simp
  have hB1:((Pr.take i).flatMap be2).length=i*64:=by rw[uU,List.length_take];omega
  have hL:=fun g=>qU [x.1,x.2] (some ⟨g,0,none⟩) 2 (by simp) (by show 2≤8589934592;omega);rw[show [x.1,x.2].flatMap (be 32)=be2 x by simp] at hL;have h64:(be2 x).length=64:=by rw[List.length_append,zk,zk]
  rw[h64] at hL;have hyl:(byC (be2 x)).length=64 * [Value.int .u8 0].length:=by rw[ze,h64];rfl
  generalize hB2:(Pr.take (i+1)).flatMap be2=B2 at *
  rcases i with _|i
  ·try dsimp only[agV,agL,List.nil_append]
   have hst' : be2 x=B2:=by rw[← hst];rfl
   repeat (first|refine Tw ?_|(refine Tm ?_;intro _)|exact Tz)
   refine WC.dT rfl Om ?_
   repeat (first|refine Ta ?_|(refine Tm ?_;intro _)|refine WO.does (zc (o':=o+0*8) rfl rfl hlt rfl) ?_|refine WO.does (zm (vs:=pfC x) (hs:=hs) (hle:=Nat.le_add_right _ _) (hc:=hcx)) ?_|(refine WO.makes (zh (cs:=zb x.1++zb x.2) rfl (by decide) rfl) ?_;intro _)|refine WO.acallN (hc:=hL _) (hR:=fun w1 hm=>RdF.seg (f:=zb) (xs:=[x.1,x.2]) (r:=[]) (Hs.sg hm)) (k:=fun g'=>?_)|refine Tc ?_|exact Tz)
   refine WO.appN (z:=[Value.int .u8 0]) (m:=64) rfl rfl rfl (Rds.own (m:=64) Hs.here (zA (by rw[ze,h64]))) hyl (by decide) (by decide) (by decide) (by decide) (fun g1 c1 r1 a1 a2 a3=>?_);rw[hst']
   repeat (first|refine Ta ?_|(refine Tm ?_;intro _)|refine WO.does (zi rfl rfl hadd2) ?_|refine Tc ?_|exact Tz)
   subst hB2;exact WX.metI (1,g1,c1,r1) (hs:=⟨⟨by show 0+1≤Pr.length;omega,fun _=>⟨by rw[← hst',a1];exact Nat.mul_one _,a2⟩⟩,by show Pr.length - (0+1)<Pr.length - 0;omega⟩)
  ·obtain⟨r1,r2⟩:=hr Om;generalize (Pr.take (i+1)).flatMap be2=B1 at *
   try dsimp only[agV,agL,List.cons_append,List.nil_append]
   repeat (first|refine Tw ?_|(refine Tm ?_;intro _)|exact Tz)
   refine WC.dT rfl Om ?_
   repeat (first|refine Ta ?_|(refine Tm ?_;intro _)|refine WO.does (zc (o':=o+(i+1)*8) rfl rfl hlt rfl) ?_|refine WO.does (zm (vs:=pfC x) (hs:=hs) (hle:=Nat.le_add_right _ _) (hc:=hcx)) ?_|(refine WO.makes (zh (cs:=zb x.1++zb x.2) rfl (by decide) rfl) ?_;intro _)|refine WO.acallN (hc:=hL _) (hR:=fun w1 hm=>RdF.seg (f:=zb) (xs:=[x.1,x.2]) (r:=[]) (Hs.sg hm)) (k:=fun g'=>?_)|refine Tc ?_|exact Tz)
   refine WO.appK (z:=[Value.int .u8 0]) (m:=64) (l:=(i+1+1)*64) rfl rfl rfl (xs:=byC B1) (r:=r) (by rw[ze,hB1];exact (Nat.mul_one _).symm) (by rw[r1];exact (Nat.mul_one _).symm) Pk.a (Rds.own (m:=64) Hs.here (zA (by rw[ze,h64]))) hyl (zT _) Om Om r2 Om (by decide) (by decide) (fun g1 c1 r1 a1 a2 a3=>?_);rw[← zS,hst] at a1 ⊢
   repeat (first|refine Ta ?_|(refine Tm ?_;intro _)|refine WO.does (zi rfl rfl hadd2) ?_|refine Tc ?_|exact Tz)
   subst hB2;exact WX.metI (i+1+1,g1,c1,r1) (hs:=⟨⟨by show i+1+1≤Pr.length;omega,fun _=>⟨by rw[a1];exact Nat.mul_one _,a2⟩⟩,by show Pr.length - (i+1+1)<Pr.length - (i+1);omega⟩)
 ·have hi2:i=Pr.length:=by omega
  subst hi2;rw[List.take_length] at *;have hBl:(Pr.flatMap be2).length=Pr.length*64:=uU _;rw[← hBl]
  obtain⟨cB,hAV,hcA,hcB⟩ : ∃ cB,agV gA cA (Pr.flatMap be2).length Pr.length=.slice (lgP gA Pr.length) (Pr.flatMap be2).length cB∧(Pr.flatMap be2).length≤cB∧cB<9223372036854775808:=by
   cases hk:Pr.length with
   | zero=>exact⟨0,by rw[hBl,hk];rfl,by rw[hBl,hk];decide,by decide⟩
   | succ k =>
    obtain⟨r1,r2⟩:=hr Om;exact⟨cA,rfl,by rw[← r1,List.length_append,ze];omega,r2⟩
  rw[hAV];generalize Pr.flatMap be2=PB at *;generalize hPm:Pr.length=nP at *;generalize hVk:V.length=nV at *;generalize hYk:Y.length=nY at *
  try dsimp only[List.cons_append,List.nil_append]
  repeat (first|refine Tw ?_|(refine Tm ?_;intro _)|exact Tz)
  refine WC.dF rfl Om ?_
  repeat (first|refine Tw ?_|(refine Tm ?_;intro _)|exact Tz)
  refine WC.adraw 16 (k:=?_)
  iterate 2 (refine DQ.auto (k:=?_))
  refine DQ.acallS (hc:=hP0) (hR:=fun _=>Rd.nil) (k:=?_)
  iterate 2 (refine DQ.auto (k:=?_))
  refine DQ.makes (vf:=fun _ g=>.slice (some ⟨g,0,none⟩) 1 1) (t:=5) (cs:=fun _=>[.int .u8 (d:Int)]) (fun s _=>zh rfl (by decide) rfl) Dp.const Dp.const ?_
  refine DQ.newsE (vf:=fun _ x=>.slice (some ⟨x 0,0,none⟩) 9 (x 1)) (Nf:=fun _ x=>[⟨x 0,5,byC (be 8 ep)++[.int .u8 (d:Int)]++mkz (x 1 - 9) [.int .u8 0]⟩]) (S:=fun _ x=>9≤x 1∧x 1<9223372036854775808)
   (fun s=>[⟨s 5 0,5,[.int .u8 (d:Int)]⟩,⟨s 2 0,5,byC (be 8 ep)⟩]) (fun s=>.cons 5 (.head _) (by decide +kernel) (.cons 2 (by repeat (first|exact .head _|apply List.Mem.tail)) (by decide +kernel) .nil)) (fun _=>⟨fun _=>9,by decide,by decide⟩)
   (fun s _=>uy (z:=[Value.int .u8 0]) (len:=8) (n:=1) rfl rfl (ys:=byC (be 8 ep)) (Rds.own (m:=8) (Hs.there Hs.here) (zA (by rw[ze,zk]))) (by rw[ze,zk];rfl) (xs:=[.int .u8 (d:Int)]) (Rds.own (m:=1) Hs.here rfl) rfl (by decide) (by decide) (by decide) (by decide) rfl) Dp.const Dp.const Dp.const ?_
  try dsimp only[List.map_cons,List.map_nil,List.cons_append,List.nil_append]
  iterate 2 (refine DQ.auto (k:=?_))
  refine DQ.callsE (fs:=fun _=>[]) (cs:=fun _=>[]) (R:=fun _=>RdF zb (.slice pV nV cV) V) (vf:=fun _ x=>.slice (lgP (x 0) nV) VB.length VB.length) (Nf:=fun _ x=>lgL (x 0) VB nV) (S:=fun _ _=>True) (fun _=>[]) (fun _=>.nil)
   (fun _=>⟨fun _=>0,trivial⟩) (fun _ _=>hLV) (fun _=>rfl) (fun _=>rfl) (fun _=>rfl) (fun _ _ w hm=>wV.mod hm.mod) Dp.const Dp.const Dp.const ?_
  try dsimp only[List.map_nil,List.nil_append]
  iterate 2 (refine DQ.auto (k:=?_))
  refine DQ.callsE (fs:=fun _=>[]) (cs:=fun _=>[]) (R:=fun _=>RdF zb (.slice pY nY cY) Y) (vf:=fun _ x=>.slice (lgP (x 0) nY) YB.length YB.length) (Nf:=fun _ x=>lgL (x 0) YB nY) (S:=fun _ _=>True) (fun _=>[]) (fun _=>.nil)
   (fun _=>⟨fun _=>0,trivial⟩) (fun _ _=>hLY) (fun _=>rfl) (fun _=>rfl) (fun _=>rfl) (fun _ _ w hm=>wY.mod hm.mod) Dp.const Dp.const Dp.const ?_
  try dsimp only[List.map_nil,List.nil_append]
  refine DQ.auto (k:=?_);refine DQ.makes (vf:=fun _ g=>.slice (some ⟨g,0,none⟩) 4 4) (t:=105) (cs:=fun s=>[.slice (some ⟨s 6 0,0,none⟩) 9 (s 6 1),.slice (lgP (s 9 0) nV) VB.length VB.length,.slice (lgP (s 12 0) nY) YB.length YB.length,.slice (lgP gA nP) PB.length cB]) (fun s _=>zh rfl (by decide) rfl) Dp.const (by intro s s' h;dsimp only;rw[h,h,h]<;>decide +kernel) ?_
  refine DQ.callE (v:=fun _=>.agg (byC H).toArray) (fun s=>[⟨s 14 0,105,[.slice (some ⟨s 6 0,0,none⟩) 9 (s 6 1),.slice (lgP (s 9 0) nV) VB.length VB.length,.slice (lgP (s 12 0) nY) YB.length YB.length,.slice (lgP gA nP) PB.length cB]⟩]++(lgL (s 12 0) YB nY++(lgL (s 9 0) VB nV++[⟨s 6 0,5,byC (be 8 ep)++[.int .u8 (d:Int)]++mkz (s 6 1 - 9) [.int .u8 0]⟩])))
   (fun s=>.cons 14 (by simp) (by decide +kernel) (Vs.lg 12 (fun k hk=>by simp[hk,lgL]) (by decide +kernel) (Vs.lg 9 (fun k hk=>by simp[hk,lgL]) (by decide +kernel) (.cons 6 (by simp) (by decide +kernel) .nil)))) (fun s _=>hO (s 6 0) (s 6 1) (s 9 0) (s 12 0) gA cB (s 14 0)) (fun s=>rfl)
   (fun s hC w hm=>⟨Hs.seg Hs.here hm,zV.cons (by
     have hab:=RdP.own (g:=s 6 0) (c:=s 6 1) (X:=be 8 ep++be 1 d) (r:=mkz (s 6 1 - 9) [Value.int .u8 0]) (t:=5) hm (by rw[← h9];exact Hs.there (Hs.left (Hs.right (M:=lgL (s 12 0) YB nY) (Hs.right (M:=lgL (s 9 0) VB nV) Hs.here)))) (by rw[List.length_append,zk,zk];exact hC.1.1.2.1) hC.1.1.2.2;rw[List.length_append,zk,zk] at hab;exact hab) (zV.cons (RdP.lg hm hVm (fun k hk=>by rw[hk];exact Hs.there (Hs.left (Hs.right (M:=lgL (s 12 0) YB nY) (Hs.left (M:=lgL (s 9 0) VB (k+1)) Hs.here)))) hVc) (zV.cons (RdP.lg hm hYm (fun k hk=>by rw[hk];exact Hs.there (Hs.left (Hs.left (M:=lgL (s 12 0) YB (k+1)) Hs.here))) hYc) (zV.cons (RdP.ag (r:=r) hm hBl (fun k hk=>by rw[hk];exact Hs.there (Hs.right (Hs.there (Hs.there Hs.here)))) hcA hcB) zV.nil)))⟩) Dp.const ?_
  refine DQ.anil (k:=?_);intro sx _;refine WO.permA (List.Perm.cons _ List.perm_append_comm) ?_
  try dsimp only[List.cons_append]
  refine WO.stores (zz (vs:=byC H) (cs':=byC H) (hl:=hHlen) (h1:=zT _) (hc:=zU (by rw[hHlen];rfl)) (hle:=by rw[hHlen];rfl)) ?_
  repeat (first|refine Tw ?_|(refine Tm ?_;intro _)|exact Tz)
  exact WX.aret1 (hr:=uw (vs:=byC H) (hc:=zA hHlen) (hl:=hHlen)) (hp:=rfl)
end Sx
end
section
open Go Go.RowKit Go.BigFrame
namespace Sx
attribute [local irreducible] DQ WC WO WX wd
section
variable {w0:World} {gs:List Nat} {K:List (Nat × Value)} {L:List Ent}
theorem lM (op:BinOp) (x y:Operand) (a b:Bool) (w:World):(eqGuard op 4 x y (.bool a) (.bool b)).run Tryz.prog w=.ok () w:=by cases op<;>kernel_rfl
end
theorem RdF.nilV {α:Type} {f:α→List Value} {w:World} {c:Nat}:RdF f (.slice none 0 c) [] w:=⟨_,_,rfl,.inl ⟨rfl,rfl⟩⟩
theorem RdF.ownO {α:Type} {f:α→List Value} {xs:List α} {r:List Value} {w:World} {g n c:Nat} (hs:Seg w g 0 (xs.flatMap f++r)) (hn:xs.length=n):RdF f (.slice (some ⟨g,0,none⟩) n c) xs w:=by
 subst hn;exact RdF.seg hs
theorem RdF.rds {α:Type} {f:α→List Value} {pt:Option Addr} {n c:Nat} {xs:List α} {w:World} {L:List Ent} (h:RdF f (.slice pt n c) xs w) (hn:xs.length=n):Rds w [] L (.slice pt n c) n (xs.flatMap f):=by
 obtain⟨pt',c',e,hpc⟩:=h;cases e
 rcases hpc with ⟨rfl,rfl⟩|⟨b,o,rfl,hs⟩
 ·exact Rds.nil
 ·exact Rds.seg (m:=(xs.flatMap f).length) hs (Nat.le_refl _) (by simp) (by rw[Nat.sub_self];unfold cut;rw[List.drop_zero,List.take_length])
end Sx
end
end Go.Proofs.YtiiefkchpicncaaGreatDoor
