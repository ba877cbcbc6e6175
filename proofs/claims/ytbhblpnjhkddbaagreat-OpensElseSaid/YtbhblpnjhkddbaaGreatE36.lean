/- Part 36 of the proof. -/
import Derived.Test.YtbhblpnjhkddbaaGreatE31
import Derived.Test.YtbhblpnjhkddbaaGreatE34
import Derived.Test.YtbhblpnjhkddbaaGreatE35
set_option linter.unusedSimpArgs false
set_option linter.unusedVariables false
set_option maxHeartbeats 8000000
namespace Go.Proofs.YtbhblpnjhkddbaaGreat
section
open Go Go.RowKit Go.BigFrame
namespace Sx
attribute [local irreducible] DQ DQS WC WO WX wd
theorem lH (n:Nat) (hn:n<4611686018427387904):Fn Tryz.prog 56 [.int .i64 (n:Int)] Tr (Is (.int .i64 ((n+1:Nat):Int))):=by
 have ha:IntKind.i64.wrap ((n:Int)+1)=((n+1:Nat):Int):=zn (by omega) (by omega) (by omega);refine Fn.enter Tryz.func56 rfl rfl rfl ?_;intro w hw
 repeat (first|refine Ta ?_|(refine Tm ?_;intro _)|refine WO.does (zg rfl rfl ha) ?_|refine Tc ?_|exact Tz)
abbrev dQ:List Value:=[.int .i64 7,.func (.func 56) #[] #[]]
theorem iR:Fn Tryz.prog 24 [] Tr (Is (.agg dQ.toArray)):=by
 refine Fn.enter Tryz.func24 rfl rfl rfl ?_;intro w hw
 repeat (first|refine Tw ?_|(refine Tm ?_;intro _)|exact Tz)
section
variable (p q g h:Nat)
theorem fW (l:List Nat) (pz:Option Addr) (c i gS gG gP:Nat) (hl:∀ a∈l,a<zc) (hn:l.length≤1099511627776) (hq:q<zc) (hb1:uk q l=true) (hi:i+1<q) (hi2:i<1000) :
  Fn Tryz.prog 58 ([.int .i64 (i:Int)]++[pt gG,pt gP,pt gS]) (fun w=>Seg w gG 0 (vg p q g h)∧Seg w gP 0 [.slice pz l.length c]∧Seg w gS 0 dQ∧RdF zb (.slice pz l.length c) l w) (Is (.tuple #[ze (shN q l i),.int .i64 0])):=by
 have h1:=lH i (by omega);have h2:=ik p q g h (i+1) (by omega) hq;rw[pL q (i+1) (by omega),Nat.mod_eq_of_lt hi] at h2;have h3:=lV p q g h l pz c (i+1) hl hn hq (Nat.lt_trans hi hq) hb1 hi;rw[show zO l (i+1)%q=shN q l i from rfl] at h3;generalize shN q l i=V at *;refine Fn.enter Tryz.func58 rfl rfl rfl ?_;intro w hw;obtain⟨wG,wP,wS,wL⟩:=hw
 repeat (first|refine Tw ?_|(refine Tm ?_;intro _)|exact Tz)
 refine WC.adraw 11 (k:=?_)
 iterate 11 (first|refine Da ?_|refine DQ.does (fun s _=>zk (hs:=wG) (hle:=Nat.le_refl _) (vs:=vg p q g h)) Dp.const ?_|refine DQ.does (fun s _=>zi (hs:=wP) (hle:=Nat.le_refl _)) Dp.const ?_|refine DQ.does (fun s _=>zi (hs:=wS) (hle:=Nat.zero_le _)) Dp.const ?_|refine DQ.acallV (hc:=h1) (k:=?_)|refine DQ.acall (hc:=h2) (k:=?_)|refine DQ.acallM (hc:=h3) (hR:=fun w hm=>wL.mod hm.mod) (k:=?_)|refine Dc ?_)
 refine DQ.anil (k:=?_);intro sx _
 repeat (first|refine Tw ?_|(refine Tm ?_;intro _)|exact Tz)
 done
end
theorem kb {f:Nat} [Cal Tryz.prog f] (caps:List Value) (V:Nat→Nat) (m:Nat) (R:World→Prop) (hst:zL R) (hm:m≤100)
  (hf:∀ i,i<m→Fn Tryz.prog f ([.int .i64 (i:Int)]++caps) R (Is (.tuple #[ze (V i),.int .i64 0]))) :
  Fn Tryz.prog 57 [.int .i64 (m:Int),.func (.func f) #[] caps.toArray] R
   (Ex (fun s=>.tuple #[.slice (some ⟨s 0,0,none⟩) m m,.int .i64 0]) (fun s=>[⟨s 0,24,((List.range m).map V).flatMap zb⟩]) (fun _=>True)):=by
 refine Fn.enter Tryz.func57 rfl rfl rfl ?_;intro w hw
 repeat (first|refine Ta ?_|(refine Tm ?_;intro _)|(refine WO.makes (zM (l:=0) (c:=m) rfl rfl (by omega) (by omega) (by omega)) ?_;intro g)|refine Tc ?_|exact Tz)
 refine WC.loopI (σ:=Nat) (fun i=>i≤m) (fun i=>[(1,.func (.func f) #[] caps.toArray),(5,.int .i64 0),(6,.slice (some ⟨g,0,none⟩) i m),(12,.int .i64 (m:Int)),(13,.int .i64 (i:Int))]) (fun i=>[⟨g,24,((List.range i).map V).flatMap zb++mkz (m - i) (zb 0)⟩]) (fun i=>m - i) 0 (fun i hi=>?_) (Nat.zero_le _)
 try dsimp only at hi ⊢
 by_cases hlt:i<m
 ·have hadd2:IntKind.i64.wrap ((i:Int)+1)=((i+1:Nat):Int):=zn (by omega) (by omega) (by omega);have hcall:=hf i hlt;have hx:((List.range m).map V)[i]?=some (V i):=by simp[hlt]
  have htk:∀ j,j≤m→((List.range m).map V).take j=(List.range j).map V:=fun j hj=>by rw[← List.map_take,List.take_range,Nat.min_eq_left hj]
  have hov:=sV (f:=zb) (z:=zb 0) (m:=m - i) zH rfl hx (by omega);rw[htk i (by omega),htk (i+1) (by omega),show m - i - 1=m - (i+1) by omega] at hov;have hle:i*(zb 0).length+(zb (V i)).length≤(((List.range i).map V).flatMap zb++mkz (m - i) (zb 0)).length:=by
   rw[List.length_append,zB zH,zQ,List.length_map,List.length_range];show i*4+4≤i*4+(m - i)*4;have:1*4≤(m - i)*4:=Nat.mul_le_mul_right _ (by omega);omega
  repeat (first|refine Tw ?_|(refine Tm ?_;intro _)|exact Tz)
  refine WC.dT rfl (by omega) ?_
  repeat (first|refine Ta ?_|(refine Tm ?_;intro _)|refine WO.acallV (hc:=hcall) (hR:=fun w' hm=>hst _ _ hw hm.mod.below) (k:=?_)|refine Tc ?_|exact Tz)
  repeat (first|refine Ta ?_|(refine Tm ?_;intro _)|(refine WO.makes (zd (t:=30) (cs:=zb (V i)) rfl (by decide) rfl) ?_;intro g2)|refine WO.both (sO (s:=undef) (z:=zb 0) rfl rfl (Rds.own (m:=4) Hs.here rfl) rfl (by omega) rfl (by repeat (first|exact Rp.here|apply Rp.there)) hov hle rfl (by decide)) ?_|refine WO.does (zg rfl rfl hadd2) ?_|refine Tc ?_|exact Tz)
  exact WX.metI (i+1) (hs:=⟨by show i+1≤m;omega,by show m - (i+1)<m - i;omega⟩)
 ·have hi2:i=m:=by omega
  subst hi2;rw[Nat.sub_self,show mkz 0 (zb 0)=[] from rfl,List.append_nil]
  repeat (first|refine Tw ?_|(refine Tm ?_;intro _)|exact Tz)
  refine WC.dF rfl (by omega) ?_
  repeat (first|refine Tw ?_|(refine Tm ?_;intro _)|exact Tz)
  exact WX.ret2 rfl (by exact zr rfl) (by exact zr rfl) [⟨g,24,((List.range i).map V).flatMap zb⟩] (Lle.c Lle.nil) ⟨fun _=>g,rfl,rfl,trivial⟩
section
variable (p q g h:Nat) (l:List Nat) (pz:Option Addr) (c m:Nat)
theorem dW (hl:∀ a∈l,a<zc) (hn:l.length≤1099511627776) (hq:q<zc) (hb1:uk q l=true) (h1:1≤m) (hm:m≤7) (hmq:m<q) :
  Fn Tryz.prog 25 [.agg dQ.toArray,yR p q g h,.slice pz l.length c,.int .i64 (m:Int)] (RdF zb (.slice pz l.length c) l)
   (Ex (fun s=>.tuple #[.slice (some ⟨s 0,0,none⟩) m m,.int .i64 0]) (fun s=>[⟨s 0,24,(shL q l m).flatMap zb⟩]) (fun _=>True)):=by
 have hC:=fun gS gG gP=>kb (f:=58) [pt gG,pt gP,pt gS] (shN q l) m (fun w=>Seg w gG 0 (vg p q g h)∧Seg w gP 0 [.slice pz l.length c]∧Seg w gS 0 dQ∧RdF zb (.slice pz l.length c) l w)
  (fun w w' ⟨a,b,d,e⟩ hb=>⟨zL.seg w w' a hb,zL.seg w w' b hb,zL.seg w w' d hb,e.mod (.of_below hb _)⟩) (by omega) (fun i hi=>fW p q g h l pz c i gS gG gP hl hn hq hb1 (by omega) (by omega))
 refine Fn.enter Tryz.func25 rfl rfl rfl ?_;intro w hw
 repeat (first|refine Ta ?_|(refine Tm ?_;intro _)|refine WO.does (zT rfl rfl (by omega)) ?_|refine WO.does (zZ rfl rfl) ?_|refine WO.does (zx rfl rfl (by omega)) ?_|refine Tc ?_|exact Tz)
 repeat (first|refine Ta ?_|(refine Tm ?_;intro _)|refine WO.does (zZ rfl rfl) ?_|refine WO.acallX (hc:=hC _ _ _) (hR:=fun w1 hm=>⟨Hs.sg hm,Hs.sg hm,Hs.sg hm,hw.mod hm.mod⟩) (k:=fun s _=>?_)|refine Tc ?_|exact Tz)
 generalize s 0=g0
 repeat (first|refine Tw ?_|(refine Tm ?_;intro _)|exact Tz)
 exact WX.ret2 rfl (by exact zr rfl) (by exact zr rfl) [⟨g0,24,(shL q l m).flatMap zb⟩] (Lle.c Lle.nil) ⟨fun _=>g0,rfl,rfl,trivial⟩
theorem abO (hl:∀ a∈l,a<zc) (hn:l.length≤1099511627776) (hq:q<zc) (hb1:uk q l=true) (h1:1≤m) (hm:m≤7) (hmq:m<q) :
  Fn Tryz.prog 10 [yR p q g h,.slice pz l.length c,.int .i64 (m:Int)] (RdF zb (.slice pz l.length c) l)
   (Ex (fun s=>.tuple #[.slice (some ⟨s 0,0,none⟩) m m,.int .i64 0]) (fun s=>[⟨s 0,24,(shL q l m).flatMap zb⟩]) (fun _=>True)):=by
 have hV:=dW p q g h l pz c m hl hn hq hb1 h1 hm hmq;have hN:=iR;refine Fn.enter Tryz.func10 rfl rfl rfl ?_;intro w hw
 repeat (first|refine Tw ?_|(refine Tm ?_;intro _)|exact Tz)
 refine WC.adraw 9 (k:=?_);refine DQ.acall (hc:=hN) (k:=?_)
 iterate 3 (refine DQ.auto (k:=?_))
 refine DQ.callsE (fs:=fun _=>[]) (cs:=fun _=>[]) (R:=fun _=>RdF zb (.slice pz l.length c) l) (vf:=fun _ x=>.tuple #[.slice (some ⟨x 0,0,none⟩) m m,.int .i64 0]) (Nf:=fun _ x=>[⟨x 0,24,(shL q l m).flatMap zb⟩]) (S:=fun _ _=>True) (fun _=>[]) (fun _=>.nil)
  (fun _=>⟨fun _=>0,trivial⟩) (fun _ _=>hV) (fun _=>rfl) (fun _=>rfl) (fun _=>by simp) (fun _ _ w hm=>hw.mod hm.mod) Dp.const Dp.const Dp.const ?_
 try dsimp only[List.map_cons,List.map_nil,List.cons_append,List.nil_append]
 iterate 4 (refine DQ.auto (k:=?_))
 refine DQ.anil (k:=?_);intro sx _;generalize sx 4 0=g0
 repeat (first|refine Tw ?_|(refine Tm ?_;intro _)|exact Tz)
 exact WX.ret2 rfl (by exact zr rfl) (by exact zr rfl) [⟨g0,24,(shL q l m).flatMap zb⟩] (Lle.c Lle.nil) ⟨fun _=>g0,rfl,rfl,trivial⟩
end
section
variable (p q g h:Nat) (f sec:Int) (ns:Value)
theorem bp (l:List Nat) (pz:Option Addr) (c:Nat) (hl:∀ a∈l,a<zc) (hn:l.length≤1099511627776) (hq:q<zc) (hf:0≤f∧0≤sec∧f+sec≤5) :
  Fn Tryz.prog 44 [stV p q g h f sec ns,.slice pz l.length c] (RdF zb (.slice pz l.length c) l) (Is (.bool (decide ((l.length:Int)=f+sec) && uk q l))):=by
 have hadd:IntKind.i64.wrap (f+sec)=f+sec:=i64_in (by omega) (by omega);cases hb:uk q l with
 | true =>
  have hA:=lV p q g h l pz c 0 hl hn hq (sW (by decide)) hb (by have:=(tv hb).1;omega);generalize zO l 0%q=V at *;rw[Bool.and_true];refine Fn.enter Tryz.func44 rfl rfl rfl ?_;intro w hw
  repeat (first|refine Ta ?_|(refine Tm ?_;intro _)|refine WO.acallR (hc:=hA) (hR:=fun w1 hm=>hw.mod hm.mod) (k:=?_)|refine WO.does (zg rfl rfl hadd) ?_|refine Tc ?_|exact Tz)
  by_cases he:(l.length:Int)=f+sec
  ·have d:decide ((l.length:Int)=f+sec)=true:=decide_eq_true he;rw[d]
   repeat (first|refine Tw ?_|(refine Tm ?_;intro _)|exact Tz)
  ·have d:decide ((l.length:Int)=f+sec)=false:=decide_eq_false he;rw[d]
   repeat (first|refine Tw ?_|(refine Tm ?_;intro _)|exact Tz)
 | false =>
  have hA:=bC p q g h l pz c 0 hl hn hq (sW (by decide)) (by rw[hb,Bool.false_and]);rw[Bool.and_false];refine Fn.enter Tryz.func44 rfl rfl rfl ?_;intro w hw
  repeat (first|refine Ta ?_|(refine Tm ?_;intro _)|refine WO.acallR (hc:=hA) (hR:=fun w1 hm=>hw.mod hm.mod) (k:=?_)|refine WO.does (zg rfl rfl hadd) ?_|refine Tc ?_|exact Tz)
  by_cases he:(l.length:Int)=f+sec
  ·have d:decide ((l.length:Int)=f+sec)=true:=decide_eq_true he;rw[d]
   repeat (first|refine Tw ?_|(refine Tm ?_;intro _)|exact Tz)
  ·have d:decide ((l.length:Int)=f+sec)=false:=decide_eq_false he;rw[d]
   repeat (first|refine Tw ?_|(refine Tm ?_;intro _)|exact Tz)
end
section
open Kp
variable {P:Program} {w0:World} {gs:List Nat} {n:Nat} {fl:List Nat} {Q:Exit→Act→World→Prop} {ops:List Oper} {L0:List Ent}
variable {tail rest:List Oper} {i:Nat} {C:zC→Prop} {K:zC→List (Nat × Value)} {N:zC→List (Nat × Ent)}
variable {d:Nat} {op:Op} {ty:TypeId} {pos:String} {after:Array Edge} {gd:Option (Nat × Bool)}
theorem DQ.acallS {f:FuncId} [Cal P f] {xs:Array Operand} {ats:Array TypeId} {vs:List Value} {Rq:World→Prop} {t m:Nat} {cs:List Value} (hc:Fn P f vs Rq (eo t m cs)) (hR:∀ w,Rq w) (ha:∀ s,evs (K s) xs.toList=some vs:=by (intro s;rfl))
  (k:DQ P w0 gs n fl Q ops L0 tail (i+1) rest (fun s=>C s∧True) (fun s=>(d,.slice (some ⟨s i 0,0,none⟩) m m)::K s) (fun s=>(i,⟨s i 0,t,cs⟩)::N s))
  (hfl:fl.contains i=false:=by rfl) (hw:∀ s,wk ops (K s) gd=some true:=by intro _;rfl) (hd:Nat.blt d n=true:=by rfl) :
  DQ P w0 gs n fl Q ops L0 tail i (⟨some d,.call { callee:=.value (.func f),args:=xs,argTypes:=ats },ty,pos,after,gd⟩::rest) C K N :=
 DQ.callsE (fs:=fun _=>[]) (cs:=fun _=>[]) (R:=fun _=>Rq) (vf:=fun _ x=>.slice (some ⟨x 0,0,none⟩) m m) (Nf:=fun _ x=>[⟨x 0,t,cs⟩]) (S:=fun _ _=>True) (fun _=>[]) (fun _=>.nil)
  (fun _=>⟨fun _=>0,trivial⟩) (fun _ _=>Fn.weak hc (fun _ h=>h) (fun v N ⟨g,e1,e2⟩=>⟨fun _=>g,e1,e2,trivial⟩)) (fun _=>rfl) ha (fun _=>by simp) (fun _ _ w _=>hR w) Dp.const Dp.const Dp.const k hfl hw hd
end
section
variable (p q g h:Nat)
theorem bT (x:Nat) (H:List Nat) (hx:x<zc) (hq:q<zc) (h0:0<q) (hH:∀ b∈H,b<256) (hl:H.length=32):Fn Tryz.prog 47 [yR p q g h,ze x,.agg (byC H).toArray] Tr (Is (ze (yV q x H))):=by
 have hP:=vj [] x 0 none (by decide);rw[List.nil_append] at hP;have hbl:(be 32 x).length=32:=zh _ _;rw[hbl] at hP;have hN:=fun g3 g5 gR=>sP q nk [.slice (some ⟨g3,0,none⟩) 32 32,.slice (some ⟨g5,0,none⟩) 32 32] [be 32 x,H] gR 0 2 hq h0 (by
  intro X hX;simp only[List.mem_cons,List.not_mem_nil,or_false] at hX
  rcases hX with rfl|rfl
  ·exact ul
  ·exact hH) (by
  simp only[yM,uS,yT,List.flatMap_cons,List.flatMap_nil,List.length_append,zh,yv,List.length_nil,hl];decide) (by decide)
 have hlt:om q (zW nk) [be 32 x,H] < zc:=Nat.lt_trans (Nat.mod_lt _ h0) hq;unfold yV;generalize om q (zW nk) [be 32 x,H]=R at *;have hbH:(byC H).length=32:=by rw[zf,hl]
 refine Fn.enter Tryz.func47 rfl rfl rfl ?_;intro w hw
 repeat (first|refine Tw ?_|(refine Tm ?_;intro _)|exact Tz)
 rename_i g3 g4 g5 g6;refine WC.adrawF [9] 11 (k:=?_)
 iterate 3 (refine DQ.auto (k:=?_))
 refine DQ.acallS (hc:=hP) (hR:=fun _=>Rd.nil) (k:=?_);refine DQ.does (v:=fun _=>.slice (some ⟨g5,0,none⟩) 32 32) (fun s _=>yY rfl) Dp.const ?_;refine DQ.makes (vf:=fun _ g=>.slice (some ⟨g,0,none⟩) 2 2) (t:=52) (cs:=fun s=>[.slice (some ⟨s 3 0,0,none⟩) 32 32,.slice (some ⟨g5,0,none⟩) 32 32]) (fun s _=>zd rfl (by decide) rfl) Dp.const (by intro s s' h;dsimp only;rw[h]<;>decide +kernel) ?_;refine DQ.callE (v:=fun _=>.tuple #[ze R,.int .i64 0]) (fun s=>[⟨s 5 0,52,[.slice (some ⟨s 3 0,0,none⟩) 32 32,.slice (some ⟨g5,0,none⟩) 32 32]⟩,⟨s 3 0,5,byC (be 32 x)⟩]) (fun s=>.cons 5 (.head _) (by decide +kernel) (.cons 3 (by repeat (first|exact .head _|apply List.Mem.tail)) (by decide +kernel) .nil)) (fun s _=>hN (s 3 0) g5 (s 5 0)) (fun s=>rfl) (fun s hC w hm=>⟨Hs.seg Hs.here hm,zS.cons (by have:=RdP.own0 (g:=s 3 0) (c:=32) (X:=be 32 x) (t:=5) hm (Hs.there Hs.here) (by omega) (by decide);rw[hbl] at this;exact this) (zS.cons (by have:=RdP.own0 (g:=g5) (c:=32) (X:=H) (t:=86) hm Hs.a (by omega) (by decide);rw[hl] at this;exact this) zS.nil)⟩) Dp.const ?_
 repeat (first|refine Da ?_|refine Df ?_)
 refine DQ.anil (k:=?_);intro sx _
 repeat (first|refine Ta ?_|(refine Tm ?_;intro _)|refine WO.does yl ?_|refine Tc ?_|exact Tz)
 by_cases hR:R=0
 ·have d:decide (R=0)=true:=decide_eq_true hR;rw[if_pos hR,d]
  repeat (first|refine Ta ?_|(refine Tm ?_;intro _)|refine WO.does (zJ (cs:=zb 1) rfl rfl (by kernel_rfl)) ?_|refine Tc ?_|exact Tz)
 ·have d:decide (R=0)=false:=decide_eq_false hR;rw[if_neg hR,d]
  repeat (first|refine Tw ?_|(refine Tm ?_;intro _)|exact Tz)
end
theorem RdF.get {α:Type} {f:α→List Value} {pz:Option Addr} {n c:Nat} {xs:List α} {w:World} (h:RdF f (.slice pz n c) xs w) {i:Nat} {x:α} (hx:xs[i]?=some x):∃ b o,pz=some ⟨b,o,none⟩∧n=xs.length∧Seg w b o (xs.flatMap f):=by
 obtain⟨p,c',e,h⟩:=h;cases e
 rcases h with ⟨_,rfl⟩|⟨b,o,rfl,hs⟩
 ·simp at hx
 ·exact⟨b,o,rfl,rfl,hs⟩
section
variable (p q g h:Nat) (f sec:Int) (ns:Value)
theorem ke (x key:Nat) (hx:x<zc) (hk:key<zc) (hp:p<zc) (hq:q<zc) (hg:g<zc) :
  Fn Tryz.prog 45 [stV p q g h f sec ns,ze x,ze key] Tr (Is (.bool (jD p q g x key))):=by
 have hE:=vo p q g h g x hg hx hp;simp only[rE] at hE;have hEl:okV (yD p g) (g ^ x%p)<zc:=fp (n:=x) (a:=g) hp;have hS:jD p q g x key=(uk q [x] && yD p g && decide (okV (yD p g) (g ^ x%p)=key)):=by
  rw[aad];congr 2;unfold zK uk;simp
 have d1:=abS (yD p g);generalize okV (yD p g) (g ^ x%p)=y at *;generalize okE (yD p g)=e at *;rw[hS,← d1];clear hS;cases hb:uk q [x] with
 | true =>
  have hA:=fun b=>lV p q g h [x] (some ⟨b,0,none⟩) 1 0 (by simpa using hx) (by show 1≤1099511627776;omega) hq (sW (by decide)) hb (by have:=(tv hb).1;omega);generalize zO [x] 0%q=V at *;rw[Bool.true_and];refine Fn.enter Tryz.func45 rfl rfl rfl ?_;intro w hw
  repeat (first|refine Ta ?_|(refine Tm ?_;intro _)|(refine WO.makes (zd (cs:=zb x) rfl (by decide) rfl) ?_;intro _)|refine WO.acallR (hc:=hA _) (hR:=fun w hm=>RdF.seg (f:=zb) (xs:=[x]) (r:=[]) (Hs.sg hm)) (k:=?_)|refine WO.acall (hc:=hE) (k:=?_)|refine WO.does (yl (ha:=hEl) (hb:=hk)) ?_|refine Tc ?_|exact Tz)
  by_cases he:e=0
  ·have d:decide (e=0)=true:=decide_eq_true he;rw[d,Bool.true_and]
   repeat (first|refine Ta ?_|(refine Tm ?_;intro _)|refine WO.does (yl (ha:=hEl) (hb:=hk)) ?_|refine Tc ?_|exact Tz)
  ·have d:decide (e=0)=false:=decide_eq_false he;rw[d,Bool.false_and]
   repeat (first|refine Tw ?_|(refine Tm ?_;intro _)|exact Tz)
 | false =>
  have hA:=fun b=>bC p q g h [x] (some ⟨b,0,none⟩) 1 0 (by simpa using hx) (by show 1≤1099511627776;omega) hq (sW (by decide)) (by rw[hb,Bool.false_and]);rw[Bool.false_and,Bool.false_and];refine Fn.enter Tryz.func45 rfl rfl rfl ?_;intro w hw
  repeat (first|refine Ta ?_|(refine Tm ?_;intro _)|(refine WO.makes (zd (cs:=zb x) rfl (by decide) rfl) ?_;intro _)|refine WO.acallR (hc:=hA _) (hR:=fun w hm=>RdF.seg (f:=zb) (xs:=[x]) (r:=[]) (Hs.sg hm)) (k:=?_)|refine WO.acall (hc:=hE) (k:=?_)|refine Tc ?_|exact Tz)
  done
end
def lgV (g n:Nat):Nat→Value
 | 0=>.slice none 0 0
 | _+1=>.slice (some ⟨g,0,none⟩) n n
def lgL (g:Nat) (B:List Nat):Nat→List Ent
 | 0=>[]
 | _+1=>[⟨g,5,byC B⟩]
theorem lh (l:List Nat) (pz:Option Addr) (c:Nat) (hl:l≠[]) (hn:l.length≤8589934592) :
  Fn Tryz.prog 46 [.slice pz l.length c] (RdF zb (.slice pz l.length c) l) (eo 5 (l.flatMap (be 32)).length (byC (l.flatMap (be 32)))):=by
 refine Fn.enter Tryz.func46 rfl rfl rfl ?_;intro w hw
 repeat (first|refine Tw ?_|(refine Tm ?_;intro _)|exact Tz)
 refine WC.loopI (σ:=Nat × Nat) (fun s=>s.1≤l.length) (fun s=>[(2,lgV s.2 ((l.take s.1).flatMap (be 32)).length s.1),(5,.slice pz l.length c),(6,.int .i64 (l.length:Int)),(7,.int .i64 (s.1:Int))])
  (fun s=>lgL s.2 ((l.take s.1).flatMap (be 32)) s.1) (fun s=>l.length - s.1) (0,0) (fun s hi=>?_) (Nat.zero_le _)
 obtain⟨i,g⟩:=s
 try dsimp only at hi ⊢
 by_cases hlt:i<l.length
 ·obtain⟨x,hx⟩ : ∃ x,l[i]?=some x:=⟨_,List.getElem?_eq_getElem hlt⟩;obtain⟨b,o,rfl,_,hs⟩:=hw.get hx;have hadd2:IntKind.i64.wrap ((i:Int)+1)=((i+1:Nat):Int):=zn (by omega) (by omega) (by omega);have hcx:cut (l.flatMap zb) (o+i*4 - o) 4=zb x:=by rw[Nat.add_sub_cancel_left];exact zN zH hx
  have hst:(l.take i).flatMap (be 32)++be 32 x=(l.take (i+1)).flatMap (be 32):=by rw[List.take_add_one,hx];simp
  have hBl:((l.take i).flatMap (be 32)).length≤549755813888:=by rw[pW,List.length_take];omega
  generalize hB2:(l.take (i+1)).flatMap (be 32)=B2 at *
  rcases i with _|i
  ·have hP:=vj [] x 0 none (by decide);rw[show []++be 32 x=B2 by rw[← hst];rfl] at hP
   repeat (first|refine Tw ?_|(refine Tm ?_;intro _)|exact Tz)
   refine WC.dT rfl (by omega) ?_
   repeat (first|refine Ta ?_|(refine Tm ?_;intro _)|refine WO.does (za (o':=o+0*4) rfl rfl hlt rfl) ?_|refine WO.does (zk (vs:=zb x) (hs:=hs) (hle:=Nat.le_add_right _ _) (hc:=hcx)) ?_|refine WO.acallN (hc:=hP) (hR:=fun _ _=>Rd.nil) (k:=fun g'=>?_)|refine Tc ?_|exact Tz)
   repeat (first|refine Ta ?_|(refine Tm ?_;intro _)|refine WO.does (zg rfl rfl hadd2) ?_|refine Tc ?_|exact Tz)
   subst hB2;exact WX.metI (1,g') (hs:=⟨by show 0+1≤l.length;omega,by show l.length - (0+1)<l.length - 0;omega⟩)
  ·have hP:=vj ((l.take (i+1)).flatMap (be 32)) x ((l.take (i+1)).flatMap (be 32)).length (some ⟨g,0,none⟩) hBl;rw[hst] at hP;generalize (l.take (i+1)).flatMap (be 32)=B1 at *
   try dsimp only[lgV,lgL]
   repeat (first|refine Tw ?_|(refine Tm ?_;intro _)|exact Tz)
   refine WC.dT rfl (by omega) ?_
   repeat (first|refine Ta ?_|(refine Tm ?_;intro _)|refine WO.does (za (o':=o+(i+1)*4) rfl rfl hlt rfl) ?_|refine WO.does (zk (vs:=zb x) (hs:=hs) (hle:=Nat.le_add_right _ _) (hc:=hcx)) ?_|refine WO.acallN (hc:=hP) (hR:=fun w1 hm=>Rd.of (Hs.sg hm)) (k:=fun g'=>?_)|refine Tc ?_|exact Tz)
   repeat (first|refine Ta ?_|(refine Tm ?_;intro _)|refine WO.does (zg rfl rfl hadd2) ?_|refine Tc ?_|exact Tz)
   subst hB2;exact WX.metI (i+1+1,g') (hs:=⟨by show i+1+1≤l.length;omega,by show l.length - (i+1+1)<l.length - (i+1);omega⟩)
 ·have hi2:i=l.length:=by omega
  subst hi2;rw[List.take_length];cases l with
  | nil=>exact absurd rfl hl
  | cons a r =>
   try dsimp only[lgV,lgL,List.length_cons]
   repeat (first|refine Tw ?_|(refine Tm ?_;intro _)|exact Tz)
   refine WC.dF rfl (by omega) ?_
   repeat (first|refine Tw ?_|(refine Tm ?_;intro _)|exact Tz)
   exact WX.retN
section
variable {w0:World} {gs:List Nat} {K:List (Nat × Value)} {L:List Ent}
theorem vL {x y:Operand} {yt ty:TypeId} {a b:Nat} {r:Bool} (hx:ev K x=some (ze a)) (hy:ev K y=some (ze b)) (ha:a<zc) (hb:b<zc) (hr:decide (a=b)=r) :
  Does Tryz.prog w0 gs K L (.binOp .eql 24 x y yt) ty (.bool r):=by
 subst hr;exact yl (hx:=hx) (hy:=hy) (ha:=ha) (hb:=hb)
end
section
variable (p q g h:Nat)
theorem bz (l:List Nat) (pz:Option Addr) (c:Nat) (hl:∀ a∈l,a<zc) (hn:l.length≤1099511627776) (hq:q<zc) :
  Fn Tryz.prog 93 [yR p q g h,.slice pz l.length c] (RdF zb (.slice pz l.length c) l) (Is (.bool (l.all fun x=>zK x x q))):=by
 refine Fn.enter Tryz.func93 rfl rfl rfl ?_;intro w hw
 repeat (first|refine Tw ?_|(refine Tm ?_;intro _)|exact Tz)
 rename_i gG;refine WC.loopI (σ:=Nat) (fun i=>i≤l.length∧∀ j,j<i→∀ x,l[j]?=some x→zK x x q=true) (fun i=>[(2,pt gG),(9,.slice pz l.length c),(10,.int .i64 (l.length:Int)),(11,.int .i64 (i:Int))]) (fun _=>[⟨gG,26,vg p q g h⟩]) (fun i=>l.length - i) 0 (fun i hi=>?_) ⟨Nat.zero_le _,fun j hj=>by omega⟩
 try dsimp only at hi ⊢
 obtain⟨hi,h0⟩:=hi
 by_cases hlt:i<l.length
 ·obtain⟨x,hx⟩ : ∃ x,l[i]?=some x:=⟨_,List.getElem?_eq_getElem hlt⟩;obtain⟨b,o,rfl,_,hs⟩:=hw.get hx;have hadd2:IntKind.i64.wrap ((i:Int)+1)=((i+1:Nat):Int):=zn (by omega) (by omega) (by omega);have hcx:cut (l.flatMap zb) (o+i*4 - o) 4=zb x:=by rw[Nat.add_sub_cancel_left];exact zN zH hx
  have hxb:=hl x (List.mem_of_getElem? hx);have hA:=qt p q g h x x hxb hxb hq;cases hm:zK x x q with
  | true =>
   rw[hm] at hA
   repeat (first|refine Tw ?_|(refine Tm ?_;intro _)|exact Tz)
   refine WC.dT rfl (by omega) ?_
   repeat (first|refine Ta ?_|(refine Tm ?_;intro _)|refine WO.does (za (o':=o+i*4) rfl rfl hlt rfl) ?_|refine WO.does (zk (vs:=zb x) (hs:=hs) (hle:=Nat.le_add_right _ _) (hc:=hcx)) ?_|refine WO.acall (hc:=hA) (k:=?_)|refine WO.does (zu rfl rfl rfl) ?_|refine WO.does (zg rfl rfl hadd2) ?_|refine Tc ?_|exact Tz)
   refine WX.metI (i+1) (hs:=⟨⟨by show i+1≤l.length;omega,fun j hj y hy=>by
    rcases Nat.lt_or_ge j i with h|h
    ·exact h0 j h y hy
    ·have:j=i:=by omega
     subst this;rw[hx] at hy;cases hy;exact hm⟩,by show l.length - (i+1)<l.length - i;omega⟩)
  | false =>
   rw[hm] at hA;rw[fu hx hm]
   repeat (first|refine Tw ?_|(refine Tm ?_;intro _)|exact Tz)
   refine WC.dT rfl (by omega) ?_
   repeat (first|refine Ta ?_|(refine Tm ?_;intro _)|refine WO.does (za (o':=o+i*4) rfl rfl hlt rfl) ?_|refine WO.does (zk (vs:=zb x) (hs:=hs) (hle:=Nat.le_add_right _ _) (hc:=hcx)) ?_|refine WO.acall (hc:=hA) (k:=?_)|refine WO.does (ym rfl rfl (by decide)) ?_|refine Tc ?_|exact Tz)
   done
 ·have hi2:i=l.length:=by omega
  rw[eQ (P:=fun x=>zK x x q) (by rw[← hi2];exact h0)]
  repeat (first|refine Tw ?_|(refine Tm ?_;intro _)|exact Tz)
  refine WC.dF rfl (by omega) ?_
  repeat (first|refine Tw ?_|(refine Tm ?_;intro _)|exact Tz)
  done
def ace (q key r:Nat) (H:List Nat):Nat:=om q (zW eG) [be 32 key,be 32 r,H]
theorem ci (key r gG gK gH:Nat) (H:List Nat) (hq:q<zc) (h0:0<q) (hH:∀ b∈H,b<256) (hl:H.length=32) :
  Fn Tryz.prog 141 ([ze r]++[pt gG,pt gK,pt gH]) (fun w=>Seg w gG 0 (vg p q g h)∧Seg w gK 0 (zb key)∧Seg w gH 0 (byC H)) (Is (ze (ace q key r H))):=by
 have hP:=fun x=>vj [] x 0 none (by decide);have hbl:∀ x,(be 32 x).length=32:=fun x=>zh _ _;simp only[List.nil_append,hbl] at hP;have hP1:=hP key;have hP2:=hP r;clear hP;have hN:=fun g3 g5 gR=>sP q eG [.slice (some ⟨g3,0,none⟩) 32 32,.slice (some ⟨g5,0,none⟩) 32 32,.slice (some ⟨gH,0,none⟩) 32 32] [be 32 key,be 32 r,H] gR 0 3 hq h0 (by
  intro X hX;simp only[List.mem_cons,List.not_mem_nil,or_false] at hX
  rcases hX with rfl|rfl|rfl
  ·exact ul
  ·exact ul
  ·exact hH) (by
  simp only[yM,uS,yT,List.flatMap_cons,List.flatMap_nil,List.length_append,zh,yv,List.length_nil,hl];decide) (by decide)
 rw[show om q (zW eG) [be 32 key,be 32 r,H]=ace q key r H from rfl] at hN;generalize ace q key r H=R at *;have hbH:(byC H).length=32:=by rw[zf,hl]
 have hrk:=hbl key;have hrr:=hbl r;clear hbl;refine Fn.enter Tryz.func141 rfl rfl rfl ?_;intro w hw;obtain⟨wG,wK,wH⟩:=hw
 repeat (first|refine Tw ?_|(refine Tm ?_;intro _)|exact Tz)
 refine WC.adrawF [11] 13 (k:=?_);refine DQ.auto (k:=?_);refine DQ.does (fun s _=>zk (hs:=wG) (hle:=Nat.zero_le _) (vs:=zb q)) Dp.const ?_;refine DQ.does (fun s _=>zk (hs:=wK) (hle:=Nat.le_refl _) (vs:=zb key)) Dp.const ?_;refine DQ.acallS (hc:=hP1) (hR:=fun _=>Rd.nil) (k:=?_);refine DQ.auto (k:=?_);refine DQ.acallS (hc:=hP2) (hR:=fun _=>Rd.nil) (k:=?_);refine DQ.does (v:=fun _=>.slice (some ⟨gH,0,none⟩) 32 32) (fun s _=>yY rfl) Dp.const ?_;refine DQ.makes (vf:=fun _ g=>.slice (some ⟨g,0,none⟩) 3 3) (t:=52) (cs:=fun s=>[.slice (some ⟨s 3 0,0,none⟩) 32 32,.slice (some ⟨s 5 0,0,none⟩) 32 32,.slice (some ⟨gH,0,none⟩) 32 32]) (fun s _=>zd rfl (by decide) rfl) Dp.const (by intro s s' h;dsimp only;rw[h,h]<;>decide +kernel) ?_
 refine DQ.callE (v:=fun _=>.tuple #[ze R,.int .i64 0]) (fun s=>[⟨s 7 0,52,[.slice (some ⟨s 3 0,0,none⟩) 32 32,.slice (some ⟨s 5 0,0,none⟩) 32 32,.slice (some ⟨gH,0,none⟩) 32 32]⟩,⟨s 5 0,5,byC (be 32 r)⟩,⟨s 3 0,5,byC (be 32 key)⟩])
  (fun s=>.cons 7 (.head _) (by decide +kernel) (.cons 5 (by repeat (first|exact .head _|apply List.Mem.tail)) (by decide +kernel) (.cons 3 (by repeat (first|exact .head _|apply List.Mem.tail)) (by decide +kernel) .nil))) (fun s _=>hN (s 3 0) (s 5 0) (s 7 0)) (fun s=>rfl)
  (fun s hC w hm=>⟨Hs.seg Hs.here hm,zS.cons (by have:=RdP.own0 (g:=s 3 0) (c:=32) (X:=be 32 key) (t:=5) hm (Hs.there (Hs.there Hs.here)) (by omega) (by decide);rw[hrk] at this;exact this) (zS.cons (by have:=RdP.own0 (g:=s 5 0) (c:=32) (X:=be 32 r) (t:=5) hm (Hs.there Hs.here) (by omega) (by decide);rw[hrr] at this;exact this)
   (zS.cons ⟨some ⟨gH,0,none⟩,32,by rw[hl],by omega,by decide,.inr ⟨gH,0,rfl,by
    have h1:(byC H)[0]?=some (.int .u8 ((H[0]'(by omega):Nat):Int)):=mV (by omega);exact mz ((wH.mod hm.mod (by simp)) 0 _ h1),wH.mod hm.mod (by simp)⟩⟩ zS.nil))⟩) Dp.const ?_
 repeat (first|refine Da ?_|refine Df ?_)
 refine DQ.anil (k:=?_);intro sx _
 repeat (first|refine Tw ?_|(refine Tm ?_;intro _)|exact Tz)
 done
end
section
variable (p q g h:Nat)
theorem aaR (key:Nat) (H:List Nat) (hl:H.length=32) :
  Fn Tryz.prog 94 [yR p q g h,ze key,.agg (byC H).toArray] Tr
   (Ex (fun x=>.func (.func 141) #[] #[pt (x 0),pt (x 1),pt (x 2)]) (fun x=>[⟨x 2,86,byC H⟩,⟨x 1,24,zb key⟩,⟨x 0,26,vg p q g h⟩]) (fun _=>True)):=by
 have hbH:(byC H).length=32:=by rw[zf,hl]
 refine Fn.enter Tryz.func94 rfl rfl rfl ?_;intro w hw
 repeat (first|refine Ta ?_|(refine Tm ?_;intro _)|refine WO.does (zZ rfl rfl) ?_|refine Tc ?_|exact Tz)
 rename_i g3 g4 g5;exact WX.ret1 rfl (by exact zr rfl) [⟨g5,86,byC H⟩,⟨g4,24,zb key⟩,⟨g3,26,vg p q g h⟩] (by repeat (first|exact Lle.nil|refine Lle.c ?_)) ⟨fun i=>if i=0 then g3 else if i=1 then g4 else g5,rfl,rfl,trivial⟩
theorem aU (x d c S:Nat) (H:List Nat) (hp:p<zc) (hq:q<zc) (hg:g<zc) (hx:x<zc) (hd:d<zc) (hl:H.length=32) (hB:sgB p q g x d=false) :
  Fn Tryz.prog 49 [yR p q g h,ze x,.agg (byC H).toArray,ze d] Tr (Is (prV false c S)):=by
 have hE:=vo p q g h g x hg hx hp;have hX:=fun b=>bz p q g h [x,d] (some ⟨b,0,none⟩) 2 (by intro a ha;simp only[List.mem_cons,List.not_mem_nil,or_false] at ha;rcases ha with rfl|rfl<;>assumption) (by show 2≤1099511627776;omega) hq;have hbH:(byC H).length=32:=by rw[zf,hl]
 unfold sgB at hB;cases e1:yD p g with
 | false =>
  rw[e1] at hE;refine Fn.enter Tryz.func49 rfl rfl rfl ?_;intro w hw
  repeat (first|refine Ta ?_|(refine Tm ?_;intro _)|refine WO.acall (hc:=hE) (k:=?_)|refine WO.does (ym rfl rfl (by decide)) ?_|refine Tc ?_|exact Tz)
  done
 | true =>
 rw[e1] at hE hB;generalize g ^ x%p=y at *;cases e2:decide (x=0) with
 | true =>
  refine Fn.enter Tryz.func49 rfl rfl rfl ?_;intro w hw
  repeat (first|refine Ta ?_|(refine Tm ?_;intro _)|refine WO.acall (hc:=hE) (k:=?_)|refine WO.does (zu rfl rfl rfl) ?_|refine WO.does (vL rfl rfl hx zz e2) ?_|refine Tc ?_|exact Tz)
  done
 | false =>
 cases e3:decide (d=0) with
 | true =>
  refine Fn.enter Tryz.func49 rfl rfl rfl ?_;intro w hw
  repeat (first|refine Ta ?_|(refine Tm ?_;intro _)|refine WO.acall (hc:=hE) (k:=?_)|refine WO.does (zu rfl rfl rfl) ?_|refine WO.does (vL rfl rfl hx zz e2) ?_|refine WO.does (vL rfl rfl hd zz e3) ?_|refine Tc ?_|exact Tz)
  done
 | false =>
 have e4:([x,d].all fun x=>zK x x q)=false:=by
  simp at e2 e3;simpa [e2,e3] using hB
 rw[e4] at hX;refine Fn.enter Tryz.func49 rfl rfl rfl ?_;intro w hw
 repeat (first|refine Ta ?_|(refine Tm ?_;intro _)|refine WO.acall (hc:=hE) (k:=?_)|refine WO.does (zu rfl rfl rfl) ?_|refine WO.does (vL rfl rfl hx zz e2) ?_|refine WO.does (vL rfl rfl hd zz e3) ?_|(refine WO.makes (zd (cs:=zb x++zb d) rfl (by decide) rfl) ?_;intro _)|refine WO.acallR (hc:=hX _) (hR:=fun w1 hm=>RdF.seg (f:=zb) (xs:=[x,d]) (r:=[]) (Hs.sg hm)) (k:=?_)|refine Tc ?_|exact Tz)
 done
theorem aap (x d c:Nat) (H:List Nat) (hp:p<zc) (hq:q<zc) (hg:g<zc) (hx:x<zc) (hd:d<zc) (hH:∀ b∈H,b<256) (hl:H.length=32) (hB:sgB p q g x d=true) (hc:sgC p q g x d H=c) :
  Fn Tryz.prog 49 [yR p q g h,ze x,.agg (byC H).toArray,ze d] Tr (Is (prV true c ((d+x*c%q)%q))):=by
 have hE1:=vo p q g h g x hg hx hp;have hE2:=vo p q g h g d hg hd hp;have hX:=fun b=>bz p q g h [x,d] (some ⟨b,0,none⟩) 2 (by intro a ha;simp only[List.mem_cons,List.not_mem_nil,or_false] at ha;rcases ha with rfl|rfl<;>assumption) (by show 2≤1099511627776;omega) hq;have hbH:(byC H).length=32:=by rw[zf,hl]
 unfold sgB at hB;simp only[Bool.and_eq_true,decide_eq_true_eq] at hB;obtain⟨⟨⟨⟨e1,e2⟩,e3⟩,e4⟩,e5⟩:=hB;rw[e1] at hE1 hE2;have d4:decide (x=0)=false:=decide_eq_false e4;have d5:decide (d=0)=false:=decide_eq_false e5;rw[show ([x,d].all fun x=>zK x x q)=true by simp[e2,e3]] at hX;have hq1:=(zG e2).1;have hxq:=(zG e2).2.1;have hdq:=(zG e3).2.1;have hcl:c<q:=by rw[← hc];exact ta (by omega) _ _
 have hCh:=fun gG gK gH=>ci p q g h (g ^ x%p) (g ^ d%p) gG gK gH H hq (by omega) hH hl;rw[show ace q (g ^ x%p) (g ^ d%p) H=c from hc] at hCh;have hM:=iB p q g h x c hx (Nat.lt_trans hcl hq) hq;rw[show zK x c q=true by simp[zK,hq1,hxq,hcl]] at hM;have hml:x*c%q<q:=Nat.mod_lt _ (by omega);have hA:=qt p q g h d (x*c%q) hd (Nat.lt_trans hml hq) hq;rw[show zK d (x*c%q) q=true by simp[zK,hq1,hdq,hml]] at hA;have hS:=aaR p q g h (g ^ x%p) H hl;clear hc;generalize (d+x*c%q)%q=S at *;generalize x*c%q=M at *;generalize g ^ x%p=P1 at *;generalize g ^ d%p=P2 at *;refine Fn.enter Tryz.func49 rfl rfl rfl ?_;intro w hw
 repeat (first|refine Ta ?_|(refine Tm ?_;intro _)|refine WO.acall (hc:=hE1) (k:=?_)|refine WO.acall (hc:=hE2) (k:=?_)|refine WO.does (zu rfl rfl rfl) ?_|refine WO.does (vL rfl rfl hx zz d4) ?_|refine WO.does (vL rfl rfl hd zz d5) ?_|(refine WO.makes (zd (cs:=zb x++zb d) rfl (by decide) rfl) ?_;intro _)|refine WO.acallR (hc:=hX _) (hR:=fun w1 hm=>RdF.seg (f:=zb) (xs:=[x,d]) (r:=[]) (Hs.sg hm)) (k:=?_)|refine Tc ?_|exact Tz)
 refine WC.adraw 7 (k:=?_)
 iterate 2 (refine DQ.auto (k:=?_))
 refine DQ.does (fun s _=>zq (vs:=byC H) (hc:=yw hbH) (hl:=hbH)) Dp.const ?_
 refine DQ.callsE (fs:=fun _=>[]) (cs:=fun _=>[]) (R:=fun _=>Tr) (vf:=fun _ x=>.func (.func 141) #[] #[pt (x 0),pt (x 1),pt (x 2)]) (Nf:=fun _ x=>[⟨x 2,86,byC H⟩,⟨x 1,24,zb P1⟩,⟨x 0,26,vg p q g h⟩]) (S:=fun _ _=>True) (fun _=>[]) (fun _=>.nil)
  (fun _=>⟨fun _=>0,trivial⟩) (fun _ _=>hS) (fun _=>rfl) (fun _=>rfl) (fun _=>rfl) (fun _ _ w hm=>trivial) Dp.const Dp.const Dp.const ?_
 try dsimp only[List.map_cons,List.map_nil,List.cons_append,List.nil_append]
 refine DQ.auto (k:=?_)
 refine DQ.callsE (fs:=fun _=>[]) (cs:=fun s=>[pt (s 3 0),pt (s 3 1),pt (s 3 2)]) (R:=fun s w=>Seg w (s 3 0) 0 (vg p q g h)∧Seg w (s 3 1) 0 (zb P1)∧Seg w (s 3 2) 0 (byC H)) (vf:=fun _ _=>ze c) (Nf:=fun _ _=>[]) (S:=fun _ _=>True) (fun s=>[⟨s 3 2,86,byC H⟩,⟨s 3 1,24,zb P1⟩,⟨s 3 0,26,vg p q g h⟩])
  (fun s=>.cons 3 (by repeat (first|exact .head _|apply List.Mem.tail)) (by decide +kernel) (.cons 3 (by repeat (first|exact .head _|apply List.Mem.tail)) (by decide +kernel) (.cons 3 (by repeat (first|exact .head _|apply List.Mem.tail)) (by decide +kernel) .nil)))
  (fun _=>⟨fun _=>0,trivial⟩) (fun s _=>(hCh (s 3 0) (s 3 1) (s 3 2)).ex) (fun _=>rfl) (fun _=>rfl) (fun _=>rfl) (fun s _ w hm=>⟨Hs.seg (.there (.there .here)) hm,Hs.seg (.there .here) hm,Hs.seg .here hm⟩) Dp.const Dp.const Dp.const ?_
 try dsimp only[List.map_cons,List.map_nil,List.cons_append,List.nil_append]
 refine DQ.autoM (k:=?_);refine DQ.anil (k:=?_);intro sx _;generalize sx 6 0=gC
 repeat (first|refine Ta ?_|(refine Tm ?_;intro _)|refine WO.acall (hc:=hM) (k:=?_)|refine WO.acall (hc:=hA) (k:=?_)|refine Tc ?_|exact Tz)
 done
theorem abE (x d:Nat) (H:List Nat) (hp:p<zc) (hq:q<zc) (hg:g<zc) (hx:x<zc) (hd:d<zc) (hH:∀ b∈H,b<256) (hl:H.length=32) :
  Fn Tryz.prog 49 [yR p q g h,ze x,.agg (byC H).toArray,ze d] Tr (Is (prV (sgB p q g x d) (sgC p q g x d H) ((d+x*sgC p q g x d H%q)%q))):=by
 generalize hc:sgC p q g x d H=c;cases hB:sgB p q g x d with
 | false=>exact aU p q g h x d c _ H hp hq hg hx hd hl hB
 | true=>exact aap p q g h x d c H hp hq hg hx hd hH hl hB hc
end
theorem tS (n:Nat) (hn:n<1000):Fn Tryz.prog 81 [.int .i64 (n:Int)] Tr (Is (.int .i64 (-((n+1:Nat):Int)))):=by
 have h1:IntKind.i64.wrap (0 - (n:Int)) = -(n:Int):=by simp[IntKind.wrap,IntKind.signed,IntKind.bits];omega
 have h2:IntKind.i64.wrap (-(n:Int) - 1) = -((n+1:Nat):Int):=by simp[IntKind.wrap,IntKind.signed,IntKind.bits];omega
 refine Fn.enter Tryz.func81 rfl rfl rfl ?_;intro w hw
 repeat (first|refine Ta ?_|(refine Tm ?_;intro _)|refine WO.does (nG rfl h1) ?_|refine WO.does (zp rfl rfl h2) ?_|refine Tc ?_|exact Tz)
abbrev cJ:List Value:=[.int .i64 3,.func (.func 81) #[] #[]]
theorem rU:Fn Tryz.prog 38 [] Tr (Is (.agg cJ.toArray)):=by
 refine Fn.enter Tryz.func38 rfl rfl rfl ?_;intro w hw
 repeat (first|refine Tw ?_|(refine Tm ?_;intro _)|exact Tz)
def scN (q:Nat) (l:List Nat) (i:Nat):Nat:=zO l (q - (i+1))%q
def scL (q:Nat) (l:List Nat) (n:Nat):List Nat:=(List.range n).map (scN q l)
theorem aac {f:Nat} [Cal Tryz.prog f] (caps:List Value) (x m:Nat) (e:Int) (R:World→Prop) (hst:zL R) (hm:0<m) (hm2:m≤100) (he:e≠0)
  (hf:Fn Tryz.prog f ([.int .i64 0]++caps) R (Is (.tuple #[ze x,.int .i64 e]))) :
  Fn Tryz.prog 57 [.int .i64 (m:Int),.func (.func f) #[] caps.toArray] R (Is (.tuple #[.slice none 0 0,.int .i64 e])):=by
 refine Fn.enter Tryz.func57 rfl rfl rfl ?_;intro w hw
 repeat (first|refine WC.loopU 1 ?_|refine Ta ?_|(refine Tm ?_;intro _)|(refine WO.makes (zM (l:=0) (c:=m) rfl rfl (by omega) (by omega) (by omega)) ?_;intro g)|refine Tc ?_|exact Tz)
 refine WC.dT rfl (by omega) ?_
 repeat (first|refine Ta ?_|(refine Tm ?_;intro _)|refine WO.acallV (hc:=hf) (hR:=fun w' hm=>hst _ _ hw hm.mod.below) (k:=?_)|refine WO.does (ym rfl rfl he) ?_|refine Tc ?_|exact Tz)
 done
section
variable (p q g h:Nat)
theorem kJ (l:List Nat) (pz:Option Addr) (c i gS gG gP:Nat) (hl:∀ a∈l,a<zc) (hn:l.length≤1099511627776) (hq:q<zc) (hb1:uk q l=true) (hi:i+1<q) (hi2:i<900) :
  Fn Tryz.prog 58 ([.int .i64 (i:Int)]++[pt gG,pt gP,pt gS]) (fun w=>Seg w gG 0 (vg p q g h)∧Seg w gP 0 [.slice pz l.length c]∧Seg w gS 0 cJ∧RdF zb (.slice pz l.length c) l w) (Is (.tuple #[ze (scN q l i),.int .i64 0])):=by
 have h1:=tS i (by omega);have h2:=nS p q g h (i+1) (by omega) (by omega) hi hq;have h3:=lV p q g h l pz c (q - (i+1)) hl hn hq (by omega) hb1 (by omega);rw[show zO l (q - (i+1))%q=scN q l i from rfl] at h3;generalize scN q l i=V at *;refine Fn.enter Tryz.func58 rfl rfl rfl ?_;intro w hw;obtain⟨wG,wP,wS,wL⟩:=hw
 repeat (first|refine Tw ?_|(refine Tm ?_;intro _)|exact Tz)
 refine WC.adraw 11 (k:=?_)
 iterate 11 (first|refine Da ?_|refine DQ.does (fun s _=>zk (hs:=wG) (hle:=Nat.le_refl _) (vs:=vg p q g h)) Dp.const ?_|refine DQ.does (fun s _=>zi (hs:=wP) (hle:=Nat.le_refl _)) Dp.const ?_|refine DQ.does (fun s _=>zi (hs:=wS) (hle:=Nat.zero_le _)) Dp.const ?_|refine DQ.acallV (hc:=h1) (k:=?_)|refine DQ.acall (hc:=h2) (k:=?_)|refine DQ.acallM (hc:=h3) (hR:=fun w hm=>wL.mod hm.mod) (k:=?_)|refine Dc ?_)
 refine DQ.anil (k:=?_);intro sx _
 repeat (first|refine Tw ?_|(refine Tm ?_;intro _)|exact Tz)
 done
end
section
variable (p q g h:Nat) (l:List Nat) (pz:Option Addr) (c m:Nat)
theorem fc (hl:∀ a∈l,a<zc) (hn:l.length≤1099511627776) (hq:q<zc) (hb1:uk q l=true) (h1:1≤m) (hm:m≤3) (hmq:m<q) :
  Fn Tryz.prog 25 [.agg cJ.toArray,yR p q g h,.slice pz l.length c,.int .i64 (m:Int)] (RdF zb (.slice pz l.length c) l)
   (Ex (fun s=>.tuple #[.slice (some ⟨s 0,0,none⟩) m m,.int .i64 0]) (fun s=>[⟨s 0,24,(scL q l m).flatMap zb⟩]) (fun _=>True)):=by
 have hC:=fun gS gG gP=>kb (f:=58) [pt gG,pt gP,pt gS] (scN q l) m (fun w=>Seg w gG 0 (vg p q g h)∧Seg w gP 0 [.slice pz l.length c]∧Seg w gS 0 cJ∧RdF zb (.slice pz l.length c) l w)
  (fun w w' ⟨a,b,d,e⟩ hb=>⟨zL.seg w w' a hb,zL.seg w w' b hb,zL.seg w w' d hb,e.mod (.of_below hb _)⟩) (by omega) (fun i hi=>kJ p q g h l pz c i gS gG gP hl hn hq hb1 (by omega) (by omega))
 refine Fn.enter Tryz.func25 rfl rfl rfl ?_;intro w hw
 repeat (first|refine Ta ?_|(refine Tm ?_;intro _)|refine WO.does (zT rfl rfl (by omega)) ?_|refine WO.does (zZ rfl rfl) ?_|refine WO.does (zx rfl rfl (by omega)) ?_|refine Tc ?_|exact Tz)
 repeat (first|refine Ta ?_|(refine Tm ?_;intro _)|refine WO.does (zZ rfl rfl) ?_|refine WO.acallX (hc:=hC _ _ _) (hR:=fun w1 hm=>⟨Hs.sg hm,Hs.sg hm,Hs.sg hm,hw.mod hm.mod⟩) (k:=fun s _=>?_)|refine Tc ?_|exact Tz)
 generalize s 0=g0
 repeat (first|refine Tw ?_|(refine Tm ?_;intro _)|exact Tz)
 exact WX.ret2 rfl (by exact zr rfl) (by exact zr rfl) [⟨g0,24,(scL q l m).flatMap zb⟩] (Lle.c Lle.nil) ⟨fun _=>g0,rfl,rfl,trivial⟩
theorem gz (hl:∀ a∈l,a<zc) (hn:l.length≤1099511627776) (hq:q<zc) (hb1:uk q l=true) (h1:1≤m) (hm:m≤3) (hmq:m<q) :
  Fn Tryz.prog 15 [yR p q g h,.slice pz l.length c,.int .i64 (m:Int)] (RdF zb (.slice pz l.length c) l)
   (Ex (fun s=>.tuple #[.slice (some ⟨s 0,0,none⟩) m m,.int .i64 0]) (fun s=>[⟨s 0,24,(scL q l m).flatMap zb⟩]) (fun _=>True)):=by
 have hV:=fc p q g h l pz c m hl hn hq hb1 h1 hm hmq;have hN:=rU;refine Fn.enter Tryz.func15 rfl rfl rfl ?_;intro w hw
 repeat (first|refine Tw ?_|(refine Tm ?_;intro _)|exact Tz)
 refine WC.adraw 9 (k:=?_);refine DQ.acall (hc:=hN) (k:=?_)
 iterate 3 (refine DQ.auto (k:=?_))
 refine DQ.callsE (fs:=fun _=>[]) (cs:=fun _=>[]) (R:=fun _=>RdF zb (.slice pz l.length c) l) (vf:=fun _ x=>.tuple #[.slice (some ⟨x 0,0,none⟩) m m,.int .i64 0]) (Nf:=fun _ x=>[⟨x 0,24,(scL q l m).flatMap zb⟩]) (S:=fun _ _=>True) (fun _=>[]) (fun _=>.nil)
  (fun _=>⟨fun _=>0,trivial⟩) (fun _ _=>hV) (fun _=>rfl) (fun _=>rfl) (fun _=>by simp) (fun _ _ w hm=>hw.mod hm.mod) Dp.const Dp.const Dp.const ?_
 try dsimp only[List.map_cons,List.map_nil,List.cons_append,List.nil_append]
 iterate 4 (refine DQ.auto (k:=?_))
 refine DQ.anil (k:=?_);intro sx _;generalize sx 4 0=g0
 repeat (first|refine Tw ?_|(refine Tm ?_;intro _)|exact Tz)
 exact WX.ret2 rfl (by exact zr rfl) (by exact zr rfl) [⟨g0,24,(scL q l m).flatMap zb⟩] (Lle.c Lle.nil) ⟨fun _=>g0,rfl,rfl,trivial⟩
end
section
variable {w0:World} {gs:List Nat} {K:List (Nat × Value)} {L:List Ent}
theorem rM {x y:Operand} {yt ty:TypeId} {a b:Nat} {r:Bool} (hx:ev K x=some (ze a)) (hy:ev K y=some (ze b)) (ha:a<zc) (hb:b<zc) (hr:decide (a≠b)=r) :
  Does Tryz.prog w0 gs K L (.binOp .neq 24 x y yt) ty (.bool r):=by
 subst hr;have:=vq (w0:=w0) (gs:=gs) (L:=L) (yt:=yt) (ty:=ty) hx hy ha hb;simpa using this
end
section
variable {w0:World} {gs:List Nat} {K:List (Nat × Value)} {L:List Ent}
theorem im (b:Bool) (w:World):(binOp .neq 4 (.bool b) (.bool b)).run Tryz.prog w=.ok (.bool false) w:=by cases b<;>kernel_rfl
theorem mf (op:BinOp) (x y:Operand) (a b:Bool) (w:World):(eqGuard op 4 x y (.bool a) (.bool b)).run Tryz.prog w=.ok () w:=by cases op<;>kernel_rfl
theorem rW {x y:Operand} {yt ty:TypeId} {b:Bool} (hx:ev K x=some (.bool b)) (hy:ev K y=some (.bool b)):Does Tryz.prog w0 gs K L (.binOp .neq 4 x y yt) ty (.bool false):=by
 intro ac w hk _ o ho _;simp only[execOp,ho,hk.eval hx,hk.eval hy,Sem.run_bind,mf,Result.andThen_ok,im,Sem.run_pure]
end
theorem jf (xs:List (Nat)) (pa pb:Option Addr) (ca cb:Nat) (hn:xs.length≤100) :
  Fn Tryz.prog 17 [.slice pa xs.length ca,.slice pb xs.length cb] (fun w=>RdF zb (.slice pa xs.length ca) xs w∧RdF zb (.slice pb xs.length cb) xs w) (Is (.bool true)):=by
 have d0:decide ((xs.length:Int)≠(xs.length:Int))=false:=decide_eq_false (fun h=>h rfl);refine Fn.enter Tryz.func17 rfl rfl rfl ?_;intro w hw;obtain⟨hwA,hwB⟩:=hw
 repeat (first|refine Tw ?_|(refine Tm ?_;intro _)|exact Tz)
 rw[d0]
 repeat (first|refine Tw ?_|(refine Tm ?_;intro _)|exact Tz)
 refine WC.loopI (σ:=Nat) (fun i=>i≤xs.length) (fun i=>[(0,.slice pa xs.length ca),(1,.slice pb xs.length cb),(5,.int .i64 (i:Int))]) (fun i=>[]) (fun i=>xs.length - i) 0 (fun i hi=>?_) (Nat.zero_le _)
 try dsimp only at hi ⊢
 by_cases hlt:i<xs.length
 ·obtain⟨x,hx⟩ : ∃ x,xs[i]?=some x:=⟨_,List.getElem?_eq_getElem hlt⟩;obtain⟨b,o,rfl,_,hs⟩:=hwA.get hx;obtain⟨b2,o2,rfl,_,hs2⟩:=hwB.get hx;have hadd2:IntKind.i64.wrap ((i:Int)+1)=((i+1:Nat):Int):=zn (by omega) (by omega) (by omega);have hcx:cut (xs.flatMap zb) (o+i*4 - o) 4=zb x:=by rw[Nat.add_sub_cancel_left];exact zN zH hx
  have hcy:cut (xs.flatMap zb) (o2+i*4 - o2) 4=zb x:=by rw[Nat.add_sub_cancel_left];exact zN zH hx
  repeat (first|refine Tw ?_|(refine Tm ?_;intro _)|exact Tz)
  refine WC.dT rfl (by omega) ?_
  repeat (first|refine Tw ?_|(refine Tm ?_;intro _)|exact Tz)
  refine WC.adraw 9 (k:=?_)
  iterate 2 (refine DQ.auto (k:=?_))
  refine DQ.does (fun s _=>za (o':=o+i*4) rfl rfl hlt rfl) Dp.const ?_;refine DQ.does (fun s _=>zk (vs:=zb x) (hs:=hs) (hle:=Nat.le_add_right _ _) (hc:=hcx)) Dp.const ?_
  iterate 2 (refine DQ.auto (k:=?_))
  refine DQ.does (fun s _=>za (o':=o2+i*4) rfl rfl hlt rfl) Dp.const ?_;refine DQ.does (fun s _=>zk (vs:=zb x) (hs:=hs2) (hle:=Nat.le_add_right _ _) (hc:=hcy)) Dp.const ?_;refine DQ.does (fun s _=>j3 rfl rfl (fun w=>dX x w) (fun w=>vG _ _ _ _ _ w)) Dp.const ?_;refine DQ.anil (k:=?_);intro sx _
  repeat (first|refine Ta ?_|(refine Tm ?_;intro _)|refine WO.does (zg rfl rfl hadd2) ?_|refine Tc ?_|exact Tz)
  exact WX.metI (i+1) (hs:=⟨by show i+1≤xs.length;omega,by show xs.length - (i+1)<xs.length - i;omega⟩)
 ·have hi2:i=xs.length:=by omega
  subst hi2
  repeat (first|refine Tw ?_|(refine Tm ?_;intro _)|exact Tz)
  refine WC.dF rfl (by omega) ?_
  repeat (first|refine Tw ?_|(refine Tm ?_;intro _)|exact Tz)
theorem oD {n:Nat} (h:n<100:=by decide):n<zc:=Nat.lt_trans h (sW (by decide))
theorem RdF.ownO {α:Type} {f:α→List Value} {xs:List α} {r:List Value} {w:World} {g n c:Nat} (hs:Seg w g 0 (xs.flatMap f++r)) (hn:xs.length=n):RdF f (.slice (some ⟨g,0,none⟩) n c) xs w:=by
 subst hn;exact RdF.seg hs
theorem RdF.ownM {α:Type} {f:α→List Value} {xs:List α} {w:World} {g n c:Nat} (hs:Seg w g 0 (xs.flatMap f)) (hn:xs.length=n):RdF f (.slice (some ⟨g,0,none⟩) n c) xs w:=by
 subst hn;exact⟨_,_,rfl,.inr ⟨g,0,rfl,hs⟩⟩
theorem iZ {A C vs:List Value} {j n:Nat} (hn:A.length=n):over (A++C) (n+j) vs=A++over C j vs:=by
 subst hn;unfold over;rw[List.take_append,List.drop_append,List.take_of_length_le (by omega),List.drop_of_length_le (by omega),List.nil_append,show A.length+j - A.length=j by omega,show A.length+j+vs.length - A.length=j+vs.length by omega];simp only[List.append_assoc]
theorem bd {A r:List Value} {m:Nat} (h:A.length=m):cut (A++r) 0 m=A:=by
 subst h;unfold cut;rw[List.drop_zero,List.take_left]
end Sx
end
end Go.Proofs.YtbhblpnjhkddbaaGreat
