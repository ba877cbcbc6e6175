/- Part 34 of the proof. -/
import Derived.Test.YtbhblpnjhkddbaaGreatM28
import Derived.Test.YtbhblpnjhkddbaaGreatM31
import Derived.Test.YtbhblpnjhkddbaaGreatM33
set_option linter.unusedSimpArgs false
set_option linter.unusedVariables false
set_option maxHeartbeats 8000000
namespace Go.Proofs.YtbhblpnjhkddbaaGreat
section
open Go Go.RowKit Go.BigFrame
namespace Sx
attribute [local irreducible] DQ DQS WC WO WX wd
theorem kY (n:Nat) (hn:n<4611686018427387904):Fn Tryz.prog 56 [.int .i64 (n:Int)] Tr (Is (.int .i64 ((n+1:Nat):Int))):=by
 have ha:IntKind.i64.wrap ((n:Int)+1)=((n+1:Nat):Int):=zn (by omega) (by omega) (by omega);refine Fn.enter Tryz.func56 rfl rfl rfl ?_;intro w hw
 repeat (first|refine Ta ?_|(refine Tm ?_;intro _)|refine WO.does (zf rfl rfl ha) ?_|refine Tc ?_|exact Tz)
abbrev cg:List Value:=[.int .i64 7,.func (.func 56) #[] #[]]
theorem gI:Fn Tryz.prog 24 [] Tr (Is (.agg cg.toArray)):=by
 refine Fn.enter Tryz.func24 rfl rfl rfl ?_;intro w hw
 repeat (first|refine Tw ?_|(refine Tm ?_;intro _)|exact Tz)
section
variable (p q g h:Nat)
theorem fy (l:List Nat) (pz:Option Addr) (c i gS gG gP:Nat) (hl:∀ a∈l,a<zc) (hn:l.length≤1099511627776) (hq:q<zc) (hb1:uD q l=true) (hi:i+1<q) (hi2:i<1000) :
  Fn Tryz.prog 58 ([.int .i64 (i:Int)]++[pt gG,pt gP,pt gS]) (fun w=>Seg w gG 0 (vu p q g h)∧Seg w gP 0 [.slice pz l.length c]∧Seg w gS 0 cg∧RdF zb (.slice pz l.length c) l w) (Is (.tuple #[ze (shN q l i),.int .i64 0])):=by
 have h1:=kY i (by omega);have h2:=ey p q g h (i+1) (by omega) hq;rw[oK q (i+1) (by omega),Nat.mod_eq_of_lt hi] at h2;have h3:=kq p q g h l pz c (i+1) hl hn hq (Nat.lt_trans hi hq) hb1 hi;rw[show zK l (i+1)%q=shN q l i from rfl] at h3;generalize shN q l i=V at *;refine Fn.enter Tryz.func58 rfl rfl rfl ?_;intro w hw;obtain⟨wG,wP,wS,wL⟩:=hw
 repeat (first|refine Tw ?_|(refine Tm ?_;intro _)|exact Tz)
 refine WC.adraw 11 (k:=?_)
 iterate 11 (first|refine Da ?_|refine DQ.does (fun s _=>zj (hs:=wG) (hle:=Nat.le_refl _) (vs:=vu p q g h)) Dp.const ?_|refine DQ.does (fun s _=>zi (hs:=wP) (hle:=Nat.le_refl _)) Dp.const ?_|refine DQ.does (fun s _=>zi (hs:=wS) (hle:=Nat.zero_le _)) Dp.const ?_|refine DQ.acallV (hc:=h1) (k:=?_)|refine DQ.acall (hc:=h2) (k:=?_)|refine DQ.acallM (hc:=h3) (hR:=fun w hm=>wL.mod hm.mod) (k:=?_)|refine Dc ?_)
 refine DQ.anil (k:=?_);intro sx _
 repeat (first|refine Tw ?_|(refine Tm ?_;intro _)|exact Tz)
 done
end
theorem lT {f:Nat} [Cal Tryz.prog f] (caps:List Value) (V:Nat→Nat) (m:Nat) (R:World→Prop) (hst:zO R) (hm:m≤100)
  (hf:∀ i,i<m→Fn Tryz.prog f ([.int .i64 (i:Int)]++caps) R (Is (.tuple #[ze (V i),.int .i64 0]))) :
  Fn Tryz.prog 57 [.int .i64 (m:Int),.func (.func f) #[] caps.toArray] R
   (Ex (fun s=>.tuple #[.slice (some ⟨s 0,0,none⟩) m m,.int .i64 0]) (fun s=>[⟨s 0,24,((List.range m).map V).flatMap zb⟩]) (fun _=>True)):=by
 refine Fn.enter Tryz.func57 rfl rfl rfl ?_;intro w hw
 repeat (first|refine Ta ?_|(refine Tm ?_;intro _)|(refine WO.makes (zP (l:=0) (c:=m) rfl rfl (by omega) (by omega) (by omega)) ?_;intro g)|refine Tc ?_|exact Tz)
 refine WC.loopI (σ:=Nat) (fun i=>i≤m) (fun i=>[(1,.func (.func f) #[] caps.toArray),(5,.int .i64 0),(6,.slice (some ⟨g,0,none⟩) i m),(12,.int .i64 (m:Int)),(13,.int .i64 (i:Int))]) (fun i=>[⟨g,24,((List.range i).map V).flatMap zb++mkz (m - i) (zb 0)⟩]) (fun i=>m - i) 0 (fun i hi=>?_) (Nat.zero_le _)
 try dsimp only at hi ⊢
 by_cases hlt:i<m
 ·have hadd2:IntKind.i64.wrap ((i:Int)+1)=((i+1:Nat):Int):=zn (by omega) (by omega) (by omega);have hcall:=hf i hlt;have hx:((List.range m).map V)[i]?=some (V i):=by simp[hlt]
  have htk:∀ j,j≤m→((List.range m).map V).take j=(List.range j).map V:=fun j hj=>by rw[← List.map_take,List.take_range,Nat.min_eq_left hj]
  have hov:=rM (f:=zb) (z:=zb 0) (m:=m - i) zu rfl hx (by omega);rw[htk i (by omega),htk (i+1) (by omega),show m - i - 1=m - (i+1) by omega] at hov;have hle:i*(zb 0).length+(zb (V i)).length≤(((List.range i).map V).flatMap zb++mkz (m - i) (zb 0)).length:=by
   rw[List.length_append,zy zu,zS,List.length_map,List.length_range];show i*4+4≤i*4+(m - i)*4;have:1*4≤(m - i)*4:=Nat.mul_le_mul_right _ (by omega);omega
  repeat (first|refine Tw ?_|(refine Tm ?_;intro _)|exact Tz)
  refine WC.dT rfl (by omega) ?_
  repeat (first|refine Ta ?_|(refine Tm ?_;intro _)|refine WO.acallV (hc:=hcall) (hR:=fun w' hm=>hst _ _ hw hm.mod.below) (k:=?_)|refine Tc ?_|exact Tz)
  repeat (first|refine Ta ?_|(refine Tm ?_;intro _)|(refine WO.makes (zd (t:=30) (cs:=zb (V i)) rfl (by decide) rfl) ?_;intro g2)|refine WO.both (rH (s:=undef) (z:=zb 0) rfl rfl (Rds.own (m:=4) Hs.here rfl) rfl (by omega) rfl (by repeat (first|exact Rp.here|apply Rp.there)) hov hle rfl (by decide)) ?_|refine WO.does (zf rfl rfl hadd2) ?_|refine Tc ?_|exact Tz)
  exact WX.metI (i+1) (hs:=⟨by show i+1≤m;omega,by show m - (i+1)<m - i;omega⟩)
 ·have hi2:i=m:=by omega
  subst hi2;rw[Nat.sub_self,show mkz 0 (zb 0)=[] from rfl,List.append_nil]
  repeat (first|refine Tw ?_|(refine Tm ?_;intro _)|exact Tz)
  refine WC.dF rfl (by omega) ?_
  repeat (first|refine Tw ?_|(refine Tm ?_;intro _)|exact Tz)
  exact WX.ret2 rfl (by exact zt rfl) (by exact zt rfl) [⟨g,24,((List.range i).map V).flatMap zb⟩] (Lle.c Lle.nil) ⟨fun _=>g,rfl,rfl,trivial⟩
section
variable (p q g h:Nat) (l:List Nat) (pz:Option Addr) (c m:Nat)
theorem dI (hl:∀ a∈l,a<zc) (hn:l.length≤1099511627776) (hq:q<zc) (hb1:uD q l=true) (h1:1≤m) (hm:m≤7) (hmq:m<q) :
  Fn Tryz.prog 25 [.agg cg.toArray,yR p q g h,.slice pz l.length c,.int .i64 (m:Int)] (RdF zb (.slice pz l.length c) l)
   (Ex (fun s=>.tuple #[.slice (some ⟨s 0,0,none⟩) m m,.int .i64 0]) (fun s=>[⟨s 0,24,(shL q l m).flatMap zb⟩]) (fun _=>True)):=by
 have hC:=fun gS gG gP=>lT (f:=58) [pt gG,pt gP,pt gS] (shN q l) m (fun w=>Seg w gG 0 (vu p q g h)∧Seg w gP 0 [.slice pz l.length c]∧Seg w gS 0 cg∧RdF zb (.slice pz l.length c) l w)
  (fun w w' ⟨a,b,d,e⟩ hb=>⟨zO.seg w w' a hb,zO.seg w w' b hb,zO.seg w w' d hb,e.mod (.of_below hb _)⟩) (by omega) (fun i hi=>fy p q g h l pz c i gS gG gP hl hn hq hb1 (by omega) (by omega))
 refine Fn.enter Tryz.func25 rfl rfl rfl ?_;intro w hw
 repeat (first|refine Ta ?_|(refine Tm ?_;intro _)|refine WO.does (zR rfl rfl (by omega)) ?_|refine WO.does (z8 rfl rfl) ?_|refine WO.does (zD rfl rfl (by omega)) ?_|refine Tc ?_|exact Tz)
 repeat (first|refine Ta ?_|(refine Tm ?_;intro _)|refine WO.does (z8 rfl rfl) ?_|refine WO.acallX (hc:=hC _ _ _) (hR:=fun w1 hm=>⟨Hs.sg hm,Hs.sg hm,Hs.sg hm,hw.mod hm.mod⟩) (k:=fun s _=>?_)|refine Tc ?_|exact Tz)
 generalize s 0=g0
 repeat (first|refine Tw ?_|(refine Tm ?_;intro _)|exact Tz)
 exact WX.ret2 rfl (by exact zt rfl) (by exact zt rfl) [⟨g0,24,(shL q l m).flatMap zb⟩] (Lle.c Lle.nil) ⟨fun _=>g0,rfl,rfl,trivial⟩
theorem ay (hl:∀ a∈l,a<zc) (hn:l.length≤1099511627776) (hq:q<zc) (hb1:uD q l=true) (h1:1≤m) (hm:m≤7) (hmq:m<q) :
  Fn Tryz.prog 10 [yR p q g h,.slice pz l.length c,.int .i64 (m:Int)] (RdF zb (.slice pz l.length c) l)
   (Ex (fun s=>.tuple #[.slice (some ⟨s 0,0,none⟩) m m,.int .i64 0]) (fun s=>[⟨s 0,24,(shL q l m).flatMap zb⟩]) (fun _=>True)):=by
 have hV:=dI p q g h l pz c m hl hn hq hb1 h1 hm hmq;have hN:=gI;refine Fn.enter Tryz.func10 rfl rfl rfl ?_;intro w hw
 repeat (first|refine Tw ?_|(refine Tm ?_;intro _)|exact Tz)
 refine WC.adraw 9 (k:=?_);refine DQ.acall (hc:=hN) (k:=?_)
 iterate 3 (refine DQ.auto (k:=?_))
 refine DQ.callsE (fs:=fun _=>[]) (cs:=fun _=>[]) (R:=fun _=>RdF zb (.slice pz l.length c) l) (vf:=fun _ x=>.tuple #[.slice (some ⟨x 0,0,none⟩) m m,.int .i64 0]) (Nf:=fun _ x=>[⟨x 0,24,(shL q l m).flatMap zb⟩]) (S:=fun _ _=>True) (fun _=>[]) (fun _=>.nil)
  (fun _=>⟨fun _=>0,trivial⟩) (fun _ _=>hV) (fun _=>rfl) (fun _=>rfl) (fun _=>by simp) (fun _ _ w hm=>hw.mod hm.mod) Dp.const Dp.const Dp.const ?_
 try dsimp only[List.map_cons,List.map_nil,List.cons_append,List.nil_append]
 iterate 4 (refine DQ.auto (k:=?_))
 refine DQ.anil (k:=?_);intro sx _;generalize sx 4 0=g0
 repeat (first|refine Tw ?_|(refine Tm ?_;intro _)|exact Tz)
 exact WX.ret2 rfl (by exact zt rfl) (by exact zt rfl) [⟨g0,24,(shL q l m).flatMap zb⟩] (Lle.c Lle.nil) ⟨fun _=>g0,rfl,rfl,trivial⟩
end
section
variable (p q g h:Nat) (f sec:Int) (ns:Value)
theorem aI (l:List Nat) (pz:Option Addr) (c:Nat) (hl:∀ a∈l,a<zc) (hn:l.length≤1099511627776) (hq:q<zc) (hf:0≤f∧0≤sec∧f+sec≤5) :
  Fn Tryz.prog 44 [stV p q g h f sec ns,.slice pz l.length c] (RdF zb (.slice pz l.length c) l) (Is (.bool (decide ((l.length:Int)=f+sec) && uD q l))):=by
 have hadd:IntKind.i64.wrap (f+sec)=f+sec:=i64_in (by omega) (by omega);cases hb:uD q l with
 | true =>
  have hA:=kq p q g h l pz c 0 hl hn hq (qp (by decide)) hb (by have:=(se hb).1;omega);generalize zK l 0%q=V at *;rw[Bool.and_true];refine Fn.enter Tryz.func44 rfl rfl rfl ?_;intro w hw
  repeat (first|refine Ta ?_|(refine Tm ?_;intro _)|refine WO.acallR (hc:=hA) (hR:=fun w1 hm=>hw.mod hm.mod) (k:=?_)|refine WO.does (zf rfl rfl hadd) ?_|refine Tc ?_|exact Tz)
  by_cases he:(l.length:Int)=f+sec
  ·have d:decide ((l.length:Int)=f+sec)=true:=decide_eq_true he;rw[d]
   repeat (first|refine Tw ?_|(refine Tm ?_;intro _)|exact Tz)
  ·have d:decide ((l.length:Int)=f+sec)=false:=decide_eq_false he;rw[d]
   repeat (first|refine Tw ?_|(refine Tm ?_;intro _)|exact Tz)
 | false =>
  have hA:=an p q g h l pz c 0 hl hn hq (qp (by decide)) (by rw[hb,Bool.false_and]);rw[Bool.and_false];refine Fn.enter Tryz.func44 rfl rfl rfl ?_;intro w hw
  repeat (first|refine Ta ?_|(refine Tm ?_;intro _)|refine WO.acallR (hc:=hA) (hR:=fun w1 hm=>hw.mod hm.mod) (k:=?_)|refine WO.does (zf rfl rfl hadd) ?_|refine Tc ?_|exact Tz)
  by_cases he:(l.length:Int)=f+sec
  ·have d:decide ((l.length:Int)=f+sec)=true:=decide_eq_true he;rw[d]
   repeat (first|refine Tw ?_|(refine Tm ?_;intro _)|exact Tz)
  ·have d:decide ((l.length:Int)=f+sec)=false:=decide_eq_false he;rw[d]
   repeat (first|refine Tw ?_|(refine Tm ?_;intro _)|exact Tz)
end
section
open Kp
variable {P:Program} {w0:World} {gs:List Nat} {n:Nat} {fl:List Nat} {Q:Exit→Act→World→Prop} {ops:List Oper} {L0:List Ent}
variable {tail rest:List Oper} {i:Nat} {C:zE→Prop} {K:zE→List (Nat × Value)} {N:zE→List (Nat × Ent)}
variable {d:Nat} {op:Op} {ty:TypeId} {pos:String} {after:Array Edge} {gd:Option (Nat × Bool)}
theorem DQ.acallS {f:FuncId} [Cal P f] {xs:Array Operand} {ats:Array TypeId} {vs:List Value} {Rq:World→Prop} {t m:Nat} {cs:List Value} (hc:Fn P f vs Rq (da t m cs)) (hR:∀ w,Rq w) (ha:∀ s,evs (K s) xs.toList=some vs:=by (intro s;rfl))
  (k:DQ P w0 gs n fl Q ops L0 tail (i+1) rest (fun s=>C s∧True) (fun s=>(d,.slice (some ⟨s i 0,0,none⟩) m m)::K s) (fun s=>(i,⟨s i 0,t,cs⟩)::N s))
  (hfl:fl.contains i=false:=by rfl) (hw:∀ s,wk ops (K s) gd=some true:=by intro _;rfl) (hd:Nat.blt d n=true:=by rfl) :
  DQ P w0 gs n fl Q ops L0 tail i (⟨some d,.call { callee:=.value (.func f),args:=xs,argTypes:=ats },ty,pos,after,gd⟩::rest) C K N :=
 DQ.callsE (fs:=fun _=>[]) (cs:=fun _=>[]) (R:=fun _=>Rq) (vf:=fun _ x=>.slice (some ⟨x 0,0,none⟩) m m) (Nf:=fun _ x=>[⟨x 0,t,cs⟩]) (S:=fun _ _=>True) (fun _=>[]) (fun _=>.nil)
  (fun _=>⟨fun _=>0,trivial⟩) (fun _ _=>Fn.weak hc (fun _ h=>h) (fun v N ⟨g,e1,e2⟩=>⟨fun _=>g,e1,e2,trivial⟩)) (fun _=>rfl) ha (fun _=>by simp) (fun _ _ w _=>hR w) Dp.const Dp.const Dp.const k hfl hw hd
end
section
variable (p q g h:Nat)
theorem aS (x:Nat) (H:List Nat) (hx:x<zc) (hq:q<zc) (h0:0<q) (hH:∀ b∈H,b<256) (hl:H.length=32):Fn Tryz.prog 47 [yR p q g h,ze x,.agg (byC H).toArray] Tr (Is (ze (y7 q x H))):=by
 have hP:=vz [] x 0 none (by decide);rw[List.nil_append] at hP;have hbl:(be 32 x).length=32:=zh _ _;rw[hbl] at hP;have hN:=fun g3 g5 gR=>rF q nI [.slice (some ⟨g3,0,none⟩) 32 32,.slice (some ⟨g5,0,none⟩) 32 32] [be 32 x,H] gR 0 2 hq h0 (by
  intro X hX;simp only[List.mem_cons,List.not_mem_nil,or_false] at hX
  rcases hX with rfl|rfl
  ·exact uE
  ·exact hH) (by
  simp only[yS,tj,yW,List.flatMap_cons,List.flatMap_nil,List.length_append,zh,yE,List.length_nil,hl];decide) (by decide)
 have hlt:nf q (zX nI) [be 32 x,H] < zc:=Nat.lt_trans (Nat.mod_lt _ h0) hq;unfold y7;generalize nf q (zX nI) [be 32 x,H]=R at *;have hbH:(byC H).length=32:=by rw[zg,hl]
 refine Fn.enter Tryz.func47 rfl rfl rfl ?_;intro w hw
 repeat (first|refine Tw ?_|(refine Tm ?_;intro _)|exact Tz)
 rename_i g3 g4 g5 g6;refine WC.adrawF [9] 11 (k:=?_)
 iterate 3 (refine DQ.auto (k:=?_))
 refine DQ.acallS (hc:=hP) (hR:=fun _=>Rd.nil) (k:=?_);refine DQ.does (v:=fun _=>.slice (some ⟨g5,0,none⟩) 32 32) (fun s _=>vi rfl) Dp.const ?_;refine DQ.makes (vf:=fun _ g=>.slice (some ⟨g,0,none⟩) 2 2) (t:=52) (cs:=fun s=>[.slice (some ⟨s 3 0,0,none⟩) 32 32,.slice (some ⟨g5,0,none⟩) 32 32]) (fun s _=>zd rfl (by decide) rfl) Dp.const (by intro s s' h;dsimp only;rw[h]<;>decide +kernel) ?_;refine DQ.callE (v:=fun _=>.tuple #[ze R,.int .i64 0]) (fun s=>[⟨s 5 0,52,[.slice (some ⟨s 3 0,0,none⟩) 32 32,.slice (some ⟨g5,0,none⟩) 32 32]⟩,⟨s 3 0,5,byC (be 32 x)⟩]) (fun s=>.cons 5 (.head _) (by decide +kernel) (.cons 3 (by repeat (first|exact .head _|apply List.Mem.tail)) (by decide +kernel) .nil)) (fun s _=>hN (s 3 0) g5 (s 5 0)) (fun s=>rfl) (fun s hC w hm=>⟨Hs.seg Hs.here hm,zT.cons (by have:=RdP.own0 (g:=s 3 0) (c:=32) (X:=be 32 x) (t:=5) hm (Hs.there Hs.here) (by omega) (by decide);rw[hbl] at this;exact this) (zT.cons (by have:=RdP.own0 (g:=g5) (c:=32) (X:=H) (t:=86) hm Hs.a (by omega) (by decide);rw[hl] at this;exact this) zT.nil)⟩) Dp.const ?_
 repeat (first|refine Da ?_|refine Df ?_)
 refine DQ.anil (k:=?_);intro sx _
 repeat (first|refine Ta ?_|(refine Tm ?_;intro _)|refine WO.does yq ?_|refine Tc ?_|exact Tz)
 by_cases hR:R=0
 ·have d:decide (R=0)=true:=decide_eq_true hR;rw[if_pos hR,d]
  repeat (first|refine Ta ?_|(refine Tm ?_;intro _)|refine WO.does (zL (cs:=zb 1) rfl rfl (by kernel_rfl)) ?_|refine Tc ?_|exact Tz)
 ·have d:decide (R=0)=false:=decide_eq_false hR;rw[if_neg hR,d]
  repeat (first|refine Tw ?_|(refine Tm ?_;intro _)|exact Tz)
end
theorem RdF.get {α:Type} {f:α→List Value} {pz:Option Addr} {n c:Nat} {xs:List α} {w:World} (h:RdF f (.slice pz n c) xs w) {i:Nat} {x:α} (hx:xs[i]?=some x):∃ b o,pz=some ⟨b,o,none⟩∧n=xs.length∧Seg w b o (xs.flatMap f):=by
 obtain⟨p,c',e,h⟩:=h;cases e
 rcases h with ⟨_,rfl⟩|⟨b,o,rfl,hs⟩
 ·simp at hx
 ·exact⟨b,o,rfl,rfl,hs⟩
section
variable (p q g h:Nat) (f sec:Int) (ns:Value)
theorem jp (x key:Nat) (hx:x<zc) (hk:key<zc) (hp:p<zc) (hq:q<zc) (hg:g<zc) :
  Fn Tryz.prog 45 [stV p q g h f sec ns,ze x,ze key] Tr (Is (.bool (k9 p q g x key))):=by
 have hE:=vD p q g h g x hg hx hp;simp only[rE] at hE;have hEl:okV (yB p g) (g ^ x%p)<zc:=rc (n:=x) (a:=g) hp;have hS:k9 p q g x key=(uD q [x] && yB p g && decide (okV (yB p g) (g ^ x%p)=key)):=by
  rw[aaQ];congr 2;unfold zN uD;simp
 have d1:=ab0 (yB p g);generalize okV (yB p g) (g ^ x%p)=y at *;generalize okE (yB p g)=e at *;rw[hS,← d1];clear hS;cases hb:uD q [x] with
 | true =>
  have hA:=fun b=>kq p q g h [x] (some ⟨b,0,none⟩) 1 0 (by simpa using hx) (by show 1≤1099511627776;omega) hq (qp (by decide)) hb (by have:=(se hb).1;omega);generalize zK [x] 0%q=V at *;rw[Bool.true_and];refine Fn.enter Tryz.func45 rfl rfl rfl ?_;intro w hw
  repeat (first|refine Ta ?_|(refine Tm ?_;intro _)|(refine WO.makes (zd (cs:=zb x) rfl (by decide) rfl) ?_;intro _)|refine WO.acallR (hc:=hA _) (hR:=fun w hm=>RdF.seg (f:=zb) (xs:=[x]) (r:=[]) (Hs.sg hm)) (k:=?_)|refine WO.acall (hc:=hE) (k:=?_)|refine WO.does (yq (ha:=hEl) (hb:=hk)) ?_|refine Tc ?_|exact Tz)
  by_cases he:e=0
  ·have d:decide (e=0)=true:=decide_eq_true he;rw[d,Bool.true_and]
   repeat (first|refine Ta ?_|(refine Tm ?_;intro _)|refine WO.does (yq (ha:=hEl) (hb:=hk)) ?_|refine Tc ?_|exact Tz)
  ·have d:decide (e=0)=false:=decide_eq_false he;rw[d,Bool.false_and]
   repeat (first|refine Tw ?_|(refine Tm ?_;intro _)|exact Tz)
 | false =>
  have hA:=fun b=>an p q g h [x] (some ⟨b,0,none⟩) 1 0 (by simpa using hx) (by show 1≤1099511627776;omega) hq (qp (by decide)) (by rw[hb,Bool.false_and]);rw[Bool.false_and,Bool.false_and];refine Fn.enter Tryz.func45 rfl rfl rfl ?_;intro w hw
  repeat (first|refine Ta ?_|(refine Tm ?_;intro _)|(refine WO.makes (zd (cs:=zb x) rfl (by decide) rfl) ?_;intro _)|refine WO.acallR (hc:=hA _) (hR:=fun w hm=>RdF.seg (f:=zb) (xs:=[x]) (r:=[]) (Hs.sg hm)) (k:=?_)|refine WO.acall (hc:=hE) (k:=?_)|refine Tc ?_|exact Tz)
  done
end
def lgV (g n:Nat):Nat→Value
 | 0=>.slice none 0 0
 | _+1=>.slice (some ⟨g,0,none⟩) n n
def lgL (g:Nat) (B:List Nat):Nat→List Ent
 | 0=>[]
 | _+1=>[⟨g,5,byC B⟩]
theorem kK (l:List Nat) (pz:Option Addr) (c:Nat) (hl:l≠[]) (hn:l.length≤8589934592) :
  Fn Tryz.prog 46 [.slice pz l.length c] (RdF zb (.slice pz l.length c) l) (da 5 (l.flatMap (be 32)).length (byC (l.flatMap (be 32)))):=by
 refine Fn.enter Tryz.func46 rfl rfl rfl ?_;intro w hw
 repeat (first|refine Tw ?_|(refine Tm ?_;intro _)|exact Tz)
 refine WC.loopI (σ:=Nat × Nat) (fun s=>s.1≤l.length) (fun s=>[(2,lgV s.2 ((l.take s.1).flatMap (be 32)).length s.1),(5,.slice pz l.length c),(6,.int .i64 (l.length:Int)),(7,.int .i64 (s.1:Int))])
  (fun s=>lgL s.2 ((l.take s.1).flatMap (be 32)) s.1) (fun s=>l.length - s.1) (0,0) (fun s hi=>?_) (Nat.zero_le _)
 obtain⟨i,g⟩:=s
 try dsimp only at hi ⊢
 by_cases hlt:i<l.length
 ·obtain⟨x,hx⟩ : ∃ x,l[i]?=some x:=⟨_,List.getElem?_eq_getElem hlt⟩;obtain⟨b,o,rfl,_,hs⟩:=hw.get hx;have hadd2:IntKind.i64.wrap ((i:Int)+1)=((i+1:Nat):Int):=zn (by omega) (by omega) (by omega);have hcx:cut (l.flatMap zb) (o+i*4 - o) 4=zb x:=by rw[Nat.add_sub_cancel_left];exact zA zu hx
  have hst:(l.take i).flatMap (be 32)++be 32 x=(l.take (i+1)).flatMap (be 32):=by rw[List.take_add_one,hx];simp
  have hBl:((l.take i).flatMap (be 32)).length≤549755813888:=by rw[o5,List.length_take];omega
  generalize hB2:(l.take (i+1)).flatMap (be 32)=B2 at *
  rcases i with _|i
  ·have hP:=vz [] x 0 none (by decide);rw[show []++be 32 x=B2 by rw[← hst];rfl] at hP
   repeat (first|refine Tw ?_|(refine Tm ?_;intro _)|exact Tz)
   refine WC.dT rfl (by omega) ?_
   repeat (first|refine Ta ?_|(refine Tm ?_;intro _)|refine WO.does (za (o':=o+0*4) rfl rfl hlt rfl) ?_|refine WO.does (zj (vs:=zb x) (hs:=hs) (hle:=Nat.le_add_right _ _) (hc:=hcx)) ?_|refine WO.acallN (hc:=hP) (hR:=fun _ _=>Rd.nil) (k:=fun g'=>?_)|refine Tc ?_|exact Tz)
   repeat (first|refine Ta ?_|(refine Tm ?_;intro _)|refine WO.does (zf rfl rfl hadd2) ?_|refine Tc ?_|exact Tz)
   subst hB2;exact WX.metI (1,g') (hs:=⟨by show 0+1≤l.length;omega,by show l.length - (0+1)<l.length - 0;omega⟩)
  ·have hP:=vz ((l.take (i+1)).flatMap (be 32)) x ((l.take (i+1)).flatMap (be 32)).length (some ⟨g,0,none⟩) hBl;rw[hst] at hP;generalize (l.take (i+1)).flatMap (be 32)=B1 at *
   try dsimp only[lgV,lgL]
   repeat (first|refine Tw ?_|(refine Tm ?_;intro _)|exact Tz)
   refine WC.dT rfl (by omega) ?_
   repeat (first|refine Ta ?_|(refine Tm ?_;intro _)|refine WO.does (za (o':=o+(i+1)*4) rfl rfl hlt rfl) ?_|refine WO.does (zj (vs:=zb x) (hs:=hs) (hle:=Nat.le_add_right _ _) (hc:=hcx)) ?_|refine WO.acallN (hc:=hP) (hR:=fun w1 hm=>Rd.of (Hs.sg hm)) (k:=fun g'=>?_)|refine Tc ?_|exact Tz)
   repeat (first|refine Ta ?_|(refine Tm ?_;intro _)|refine WO.does (zf rfl rfl hadd2) ?_|refine Tc ?_|exact Tz)
   subst hB2;exact WX.metI (i+1+1,g') (hs:=⟨by show i+1+1≤l.length;omega,by show l.length - (i+1+1)<l.length - (i+1);omega⟩)
 ·have hi2:i=l.length:=by omega
  subst hi2;rw[List.take_length];cases l with
  | nil=>exact absurd rfl hl
  | cons a r =>
   try dsimp only[lgV,lgL,List.length_cons]
   repeat (first|refine Tw ?_|(refine Tm ?_;intro _)|exact Tz)
   refine WC.dF rfl (by omega) ?_
   repeat (first|refine Tw ?_|(refine Tm ?_;intro _)|exact Tz)
   exact WX.retN
section
variable {w0:World} {gs:List Nat} {K:List (Nat × Value)} {L:List Ent}
theorem yv {x y:Operand} {yt ty:TypeId} {a b:Nat} {r:Bool} (hx:ev K x=some (ze a)) (hy:ev K y=some (ze b)) (ha:a<zc) (hb:b<zc) (hr:decide (a=b)=r) :
  Does Tryz.prog w0 gs K L (.binOp .eql 24 x y yt) ty (.bool r):=by
 subst hr;exact yq (hx:=hx) (hy:=hy) (ha:=ha) (hb:=hb)
end
section
variable (p q g h:Nat)
theorem aA (l:List Nat) (pz:Option Addr) (c:Nat) (hl:∀ a∈l,a<zc) (hn:l.length≤1099511627776) (hq:q<zc) :
  Fn Tryz.prog 93 [yR p q g h,.slice pz l.length c] (RdF zb (.slice pz l.length c) l) (Is (.bool (l.all fun x=>zN x x q))):=by
 refine Fn.enter Tryz.func93 rfl rfl rfl ?_;intro w hw
 repeat (first|refine Tw ?_|(refine Tm ?_;intro _)|exact Tz)
 rename_i gG;refine WC.loopI (σ:=Nat) (fun i=>i≤l.length∧∀ j,j<i→∀ x,l[j]?=some x→zN x x q=true) (fun i=>[(2,pt gG),(9,.slice pz l.length c),(10,.int .i64 (l.length:Int)),(11,.int .i64 (i:Int))]) (fun _=>[⟨gG,26,vu p q g h⟩]) (fun i=>l.length - i) 0 (fun i hi=>?_) ⟨Nat.zero_le _,fun j hj=>by omega⟩
 try dsimp only at hi ⊢
 obtain⟨hi,h0⟩:=hi
 by_cases hlt:i<l.length
 ·obtain⟨x,hx⟩ : ∃ x,l[i]?=some x:=⟨_,List.getElem?_eq_getElem hlt⟩;obtain⟨b,o,rfl,_,hs⟩:=hw.get hx;have hadd2:IntKind.i64.wrap ((i:Int)+1)=((i+1:Nat):Int):=zn (by omega) (by omega) (by omega);have hcx:cut (l.flatMap zb) (o+i*4 - o) 4=zb x:=by rw[Nat.add_sub_cancel_left];exact zA zu hx
  have hxb:=hl x (List.mem_of_getElem? hx);have hA:=pH p q g h x x hxb hxb hq;cases hm:zN x x q with
  | true =>
   rw[hm] at hA
   repeat (first|refine Tw ?_|(refine Tm ?_;intro _)|exact Tz)
   refine WC.dT rfl (by omega) ?_
   repeat (first|refine Ta ?_|(refine Tm ?_;intro _)|refine WO.does (za (o':=o+i*4) rfl rfl hlt rfl) ?_|refine WO.does (zj (vs:=zb x) (hs:=hs) (hle:=Nat.le_add_right _ _) (hc:=hcx)) ?_|refine WO.acall (hc:=hA) (k:=?_)|refine WO.does (zm rfl rfl rfl) ?_|refine WO.does (zf rfl rfl hadd2) ?_|refine Tc ?_|exact Tz)
   refine WX.metI (i+1) (hs:=⟨⟨by show i+1≤l.length;omega,fun j hj y hy=>by
    rcases Nat.lt_or_ge j i with h|h
    ·exact h0 j h y hy
    ·have:j=i:=by omega
     subst this;rw[hx] at hy;cases hy;exact hm⟩,by show l.length - (i+1)<l.length - i;omega⟩)
  | false =>
   rw[hm] at hA;rw[fz hx hm]
   repeat (first|refine Tw ?_|(refine Tm ?_;intro _)|exact Tz)
   refine WC.dT rfl (by omega) ?_
   repeat (first|refine Ta ?_|(refine Tm ?_;intro _)|refine WO.does (za (o':=o+i*4) rfl rfl hlt rfl) ?_|refine WO.does (zj (vs:=zb x) (hs:=hs) (hle:=Nat.le_add_right _ _) (hc:=hcx)) ?_|refine WO.acall (hc:=hA) (k:=?_)|refine WO.does (z6 rfl rfl (by decide)) ?_|refine Tc ?_|exact Tz)
   done
 ·have hi2:i=l.length:=by omega
  rw[bv (P:=fun x=>zN x x q) (by rw[← hi2];exact h0)]
  repeat (first|refine Tw ?_|(refine Tm ?_;intro _)|exact Tz)
  refine WC.dF rfl (by omega) ?_
  repeat (first|refine Tw ?_|(refine Tm ?_;intro _)|exact Tz)
  done
def acW (q key r:Nat) (H:List Nat):Nat:=nf q (zX dC) [be 32 key,be 32 r,H]
theorem cG (key r gG gK gH:Nat) (H:List Nat) (hq:q<zc) (h0:0<q) (hH:∀ b∈H,b<256) (hl:H.length=32) :
  Fn Tryz.prog 141 ([ze r]++[pt gG,pt gK,pt gH]) (fun w=>Seg w gG 0 (vu p q g h)∧Seg w gK 0 (zb key)∧Seg w gH 0 (byC H)) (Is (ze (acW q key r H))):=by
 have hP:=fun x=>vz [] x 0 none (by decide);have hbl:∀ x,(be 32 x).length=32:=fun x=>zh _ _;simp only[List.nil_append,hbl] at hP;have hP1:=hP key;have hP2:=hP r;clear hP;have hN:=fun g3 g5 gR=>rF q dC [.slice (some ⟨g3,0,none⟩) 32 32,.slice (some ⟨g5,0,none⟩) 32 32,.slice (some ⟨gH,0,none⟩) 32 32] [be 32 key,be 32 r,H] gR 0 3 hq h0 (by
  intro X hX;simp only[List.mem_cons,List.not_mem_nil,or_false] at hX
  rcases hX with rfl|rfl|rfl
  ·exact uE
  ·exact uE
  ·exact hH) (by
  simp only[yS,tj,yW,List.flatMap_cons,List.flatMap_nil,List.length_append,zh,yE,List.length_nil,hl];decide) (by decide)
 rw[show nf q (zX dC) [be 32 key,be 32 r,H]=acW q key r H from rfl] at hN;generalize acW q key r H=R at *;have hbH:(byC H).length=32:=by rw[zg,hl]
 have hrk:=hbl key;have hrr:=hbl r;clear hbl;refine Fn.enter Tryz.func141 rfl rfl rfl ?_;intro w hw;obtain⟨wG,wK,wH⟩:=hw
 repeat (first|refine Tw ?_|(refine Tm ?_;intro _)|exact Tz)
 refine WC.adrawF [11] 13 (k:=?_);refine DQ.auto (k:=?_);refine DQ.does (fun s _=>zj (hs:=wG) (hle:=Nat.zero_le _) (vs:=zb q)) Dp.const ?_;refine DQ.does (fun s _=>zj (hs:=wK) (hle:=Nat.le_refl _) (vs:=zb key)) Dp.const ?_;refine DQ.acallS (hc:=hP1) (hR:=fun _=>Rd.nil) (k:=?_);refine DQ.auto (k:=?_);refine DQ.acallS (hc:=hP2) (hR:=fun _=>Rd.nil) (k:=?_);refine DQ.does (v:=fun _=>.slice (some ⟨gH,0,none⟩) 32 32) (fun s _=>vi rfl) Dp.const ?_;refine DQ.makes (vf:=fun _ g=>.slice (some ⟨g,0,none⟩) 3 3) (t:=52) (cs:=fun s=>[.slice (some ⟨s 3 0,0,none⟩) 32 32,.slice (some ⟨s 5 0,0,none⟩) 32 32,.slice (some ⟨gH,0,none⟩) 32 32]) (fun s _=>zd rfl (by decide) rfl) Dp.const (by intro s s' h;dsimp only;rw[h,h]<;>decide +kernel) ?_
 refine DQ.callE (v:=fun _=>.tuple #[ze R,.int .i64 0]) (fun s=>[⟨s 7 0,52,[.slice (some ⟨s 3 0,0,none⟩) 32 32,.slice (some ⟨s 5 0,0,none⟩) 32 32,.slice (some ⟨gH,0,none⟩) 32 32]⟩,⟨s 5 0,5,byC (be 32 r)⟩,⟨s 3 0,5,byC (be 32 key)⟩])
  (fun s=>.cons 7 (.head _) (by decide +kernel) (.cons 5 (by repeat (first|exact .head _|apply List.Mem.tail)) (by decide +kernel) (.cons 3 (by repeat (first|exact .head _|apply List.Mem.tail)) (by decide +kernel) .nil))) (fun s _=>hN (s 3 0) (s 5 0) (s 7 0)) (fun s=>rfl)
  (fun s hC w hm=>⟨Hs.seg Hs.here hm,zT.cons (by have:=RdP.own0 (g:=s 3 0) (c:=32) (X:=be 32 key) (t:=5) hm (Hs.there (Hs.there Hs.here)) (by omega) (by decide);rw[hrk] at this;exact this) (zT.cons (by have:=RdP.own0 (g:=s 5 0) (c:=32) (X:=be 32 r) (t:=5) hm (Hs.there Hs.here) (by omega) (by decide);rw[hrr] at this;exact this)
   (zT.cons ⟨some ⟨gH,0,none⟩,32,by rw[hl],by omega,by decide,.inr ⟨gH,0,rfl,by
    have h1:(byC H)[0]?=some (.int .u8 ((H[0]'(by omega):Nat):Int)):=lf (by omega);exact mI ((wH.mod hm.mod (by simp)) 0 _ h1),wH.mod hm.mod (by simp)⟩⟩ zT.nil))⟩) Dp.const ?_
 repeat (first|refine Da ?_|refine Df ?_)
 refine DQ.anil (k:=?_);intro sx _
 repeat (first|refine Tw ?_|(refine Tm ?_;intro _)|exact Tz)
 done
end
section
variable (p q g h:Nat)
theorem aaV (key:Nat) (H:List Nat) (hl:H.length=32) :
  Fn Tryz.prog 94 [yR p q g h,ze key,.agg (byC H).toArray] Tr
   (Ex (fun x=>.func (.func 141) #[] #[pt (x 0),pt (x 1),pt (x 2)]) (fun x=>[⟨x 2,86,byC H⟩,⟨x 1,24,zb key⟩,⟨x 0,26,vu p q g h⟩]) (fun _=>True)):=by
 have hbH:(byC H).length=32:=by rw[zg,hl]
 refine Fn.enter Tryz.func94 rfl rfl rfl ?_;intro w hw
 repeat (first|refine Ta ?_|(refine Tm ?_;intro _)|refine WO.does (z8 rfl rfl) ?_|refine Tc ?_|exact Tz)
 rename_i g3 g4 g5;exact WX.ret1 rfl (by exact zt rfl) [⟨g5,86,byC H⟩,⟨g4,24,zb key⟩,⟨g3,26,vu p q g h⟩] (by repeat (first|exact Lle.nil|refine Lle.c ?_)) ⟨fun i=>if i=0 then g3 else if i=1 then g4 else g5,rfl,rfl,trivial⟩
theorem abz (x d c S:Nat) (H:List Nat) (hp:p<zc) (hq:q<zc) (hg:g<zc) (hx:x<zc) (hd:d<zc) (hl:H.length=32) (hB:sgB p q g x d=false) :
  Fn Tryz.prog 49 [yR p q g h,ze x,.agg (byC H).toArray,ze d] Tr (Is (prV false c S)):=by
 have hE:=vD p q g h g x hg hx hp;have hX:=fun b=>aA p q g h [x,d] (some ⟨b,0,none⟩) 2 (by intro a ha;simp only[List.mem_cons,List.not_mem_nil,or_false] at ha;rcases ha with rfl|rfl<;>assumption) (by show 2≤1099511627776;omega) hq;have hbH:(byC H).length=32:=by rw[zg,hl]
 unfold sgB at hB;cases e1:yB p g with
 | false =>
  rw[e1] at hE;refine Fn.enter Tryz.func49 rfl rfl rfl ?_;intro w hw
  repeat (first|refine Ta ?_|(refine Tm ?_;intro _)|refine WO.acall (hc:=hE) (k:=?_)|refine WO.does (z6 rfl rfl (by decide)) ?_|refine Tc ?_|exact Tz)
  done
 | true =>
 rw[e1] at hE hB;generalize g ^ x%p=y at *;cases e2:decide (x=0) with
 | true =>
  refine Fn.enter Tryz.func49 rfl rfl rfl ?_;intro w hw
  repeat (first|refine Ta ?_|(refine Tm ?_;intro _)|refine WO.acall (hc:=hE) (k:=?_)|refine WO.does (zm rfl rfl rfl) ?_|refine WO.does (yv rfl rfl hx zC e2) ?_|refine Tc ?_|exact Tz)
  done
 | false =>
 cases e3:decide (d=0) with
 | true =>
  refine Fn.enter Tryz.func49 rfl rfl rfl ?_;intro w hw
  repeat (first|refine Ta ?_|(refine Tm ?_;intro _)|refine WO.acall (hc:=hE) (k:=?_)|refine WO.does (zm rfl rfl rfl) ?_|refine WO.does (yv rfl rfl hx zC e2) ?_|refine WO.does (yv rfl rfl hd zC e3) ?_|refine Tc ?_|exact Tz)
  done
 | false =>
 have e4:([x,d].all fun x=>zN x x q)=false:=by
  simp at e2 e3;simpa [e2,e3] using hB
 rw[e4] at hX;refine Fn.enter Tryz.func49 rfl rfl rfl ?_;intro w hw
 repeat (first|refine Ta ?_|(refine Tm ?_;intro _)|refine WO.acall (hc:=hE) (k:=?_)|refine WO.does (zm rfl rfl rfl) ?_|refine WO.does (yv rfl rfl hx zC e2) ?_|refine WO.does (yv rfl rfl hd zC e3) ?_|(refine WO.makes (zd (cs:=zb x++zb d) rfl (by decide) rfl) ?_;intro _)|refine WO.acallR (hc:=hX _) (hR:=fun w1 hm=>RdF.seg (f:=zb) (xs:=[x,d]) (r:=[]) (Hs.sg hm)) (k:=?_)|refine Tc ?_|exact Tz)
 done
theorem aa9 (x d c:Nat) (H:List Nat) (hp:p<zc) (hq:q<zc) (hg:g<zc) (hx:x<zc) (hd:d<zc) (hH:∀ b∈H,b<256) (hl:H.length=32) (hB:sgB p q g x d=true) (hc:sgC p q g x d H=c) :
  Fn Tryz.prog 49 [yR p q g h,ze x,.agg (byC H).toArray,ze d] Tr (Is (prV true c ((d+x*c%q)%q))):=by
 have hE1:=vD p q g h g x hg hx hp;have hE2:=vD p q g h g d hg hd hp;have hX:=fun b=>aA p q g h [x,d] (some ⟨b,0,none⟩) 2 (by intro a ha;simp only[List.mem_cons,List.not_mem_nil,or_false] at ha;rcases ha with rfl|rfl<;>assumption) (by show 2≤1099511627776;omega) hq;have hbH:(byC H).length=32:=by rw[zg,hl]
 unfold sgB at hB;simp only[Bool.and_eq_true,decide_eq_true_eq] at hB;obtain⟨⟨⟨⟨e1,e2⟩,e3⟩,e4⟩,e5⟩:=hB;rw[e1] at hE1 hE2;have d4:decide (x=0)=false:=decide_eq_false e4;have d5:decide (d=0)=false:=decide_eq_false e5;rw[show ([x,d].all fun x=>zN x x q)=true by simp[e2,e3]] at hX;have hq1:=(zJ e2).1;have hxq:=(zJ e2).2.1;have hdq:=(zJ e3).2.1;have hcl:c<q:=by rw[← hc];exact tu (by omega) _ _
 have hCh:=fun gG gK gH=>cG p q g h (g ^ x%p) (g ^ d%p) gG gK gH H hq (by omega) hH hl;rw[show acW q (g ^ x%p) (g ^ d%p) H=c from hc] at hCh;have hM:=eX p q g h x c hx (Nat.lt_trans hcl hq) hq;rw[show zN x c q=true by simp[zN,hq1,hxq,hcl]] at hM;have hml:x*c%q<q:=Nat.mod_lt _ (by omega);have hA:=pH p q g h d (x*c%q) hd (Nat.lt_trans hml hq) hq;rw[show zN d (x*c%q) q=true by simp[zN,hq1,hdq,hml]] at hA;have hS:=aaV p q g h (g ^ x%p) H hl;clear hc;generalize (d+x*c%q)%q=S at *;generalize x*c%q=M at *;generalize g ^ x%p=P1 at *;generalize g ^ d%p=P2 at *;refine Fn.enter Tryz.func49 rfl rfl rfl ?_;intro w hw
 repeat (first|refine Ta ?_|(refine Tm ?_;intro _)|refine WO.acall (hc:=hE1) (k:=?_)|refine WO.acall (hc:=hE2) (k:=?_)|refine WO.does (zm rfl rfl rfl) ?_|refine WO.does (yv rfl rfl hx zC d4) ?_|refine WO.does (yv rfl rfl hd zC d5) ?_|(refine WO.makes (zd (cs:=zb x++zb d) rfl (by decide) rfl) ?_;intro _)|refine WO.acallR (hc:=hX _) (hR:=fun w1 hm=>RdF.seg (f:=zb) (xs:=[x,d]) (r:=[]) (Hs.sg hm)) (k:=?_)|refine Tc ?_|exact Tz)
 refine WC.adraw 7 (k:=?_)
 iterate 2 (refine DQ.auto (k:=?_))
 refine DQ.does (fun s _=>zx (vs:=byC H) (hc:=yA hbH) (hl:=hbH)) Dp.const ?_
 refine DQ.callsE (fs:=fun _=>[]) (cs:=fun _=>[]) (R:=fun _=>Tr) (vf:=fun _ x=>.func (.func 141) #[] #[pt (x 0),pt (x 1),pt (x 2)]) (Nf:=fun _ x=>[⟨x 2,86,byC H⟩,⟨x 1,24,zb P1⟩,⟨x 0,26,vu p q g h⟩]) (S:=fun _ _=>True) (fun _=>[]) (fun _=>.nil)
  (fun _=>⟨fun _=>0,trivial⟩) (fun _ _=>hS) (fun _=>rfl) (fun _=>rfl) (fun _=>rfl) (fun _ _ w hm=>trivial) Dp.const Dp.const Dp.const ?_
 try dsimp only[List.map_cons,List.map_nil,List.cons_append,List.nil_append]
 refine DQ.auto (k:=?_)
 refine DQ.callsE (fs:=fun _=>[]) (cs:=fun s=>[pt (s 3 0),pt (s 3 1),pt (s 3 2)]) (R:=fun s w=>Seg w (s 3 0) 0 (vu p q g h)∧Seg w (s 3 1) 0 (zb P1)∧Seg w (s 3 2) 0 (byC H)) (vf:=fun _ _=>ze c) (Nf:=fun _ _=>[]) (S:=fun _ _=>True) (fun s=>[⟨s 3 2,86,byC H⟩,⟨s 3 1,24,zb P1⟩,⟨s 3 0,26,vu p q g h⟩])
  (fun s=>.cons 3 (by repeat (first|exact .head _|apply List.Mem.tail)) (by decide +kernel) (.cons 3 (by repeat (first|exact .head _|apply List.Mem.tail)) (by decide +kernel) (.cons 3 (by repeat (first|exact .head _|apply List.Mem.tail)) (by decide +kernel) .nil)))
  (fun _=>⟨fun _=>0,trivial⟩) (fun s _=>(hCh (s 3 0) (s 3 1) (s 3 2)).ex) (fun _=>rfl) (fun _=>rfl) (fun _=>rfl) (fun s _ w hm=>⟨Hs.seg (.there (.there .here)) hm,Hs.seg (.there .here) hm,Hs.seg .here hm⟩) Dp.const Dp.const Dp.const ?_
 try dsimp only[List.map_cons,List.map_nil,List.cons_append,List.nil_append]
 refine DQ.autoM (k:=?_);refine DQ.anil (k:=?_);intro sx _;generalize sx 6 0=gC
 repeat (first|refine Ta ?_|(refine Tm ?_;intro _)|refine WO.acall (hc:=hM) (k:=?_)|refine WO.acall (hc:=hA) (k:=?_)|refine Tc ?_|exact Tz)
 done
theorem acI (x d:Nat) (H:List Nat) (hp:p<zc) (hq:q<zc) (hg:g<zc) (hx:x<zc) (hd:d<zc) (hH:∀ b∈H,b<256) (hl:H.length=32) :
  Fn Tryz.prog 49 [yR p q g h,ze x,.agg (byC H).toArray,ze d] Tr (Is (prV (sgB p q g x d) (sgC p q g x d H) ((d+x*sgC p q g x d H%q)%q))):=by
 generalize hc:sgC p q g x d H=c;cases hB:sgB p q g x d with
 | false=>exact abz p q g h x d c _ H hp hq hg hx hd hl hB
 | true=>exact aa9 p q g h x d c H hp hq hg hx hd hH hl hB hc
end
theorem sD (n:Nat) (hn:n<1000):Fn Tryz.prog 81 [.int .i64 (n:Int)] Tr (Is (.int .i64 (-((n+1:Nat):Int)))):=by
 have h1:IntKind.i64.wrap (0 - (n:Int)) = -(n:Int):=by simp[IntKind.wrap,IntKind.signed,IntKind.bits];omega
 have h2:IntKind.i64.wrap (-(n:Int) - 1) = -((n+1:Nat):Int):=by simp[IntKind.wrap,IntKind.signed,IntKind.bits];omega
 refine Fn.enter Tryz.func81 rfl rfl rfl ?_;intro w hw
 repeat (first|refine Ta ?_|(refine Tm ?_;intro _)|refine WO.does (mi rfl h1) ?_|refine WO.does (zp rfl rfl h2) ?_|refine Tc ?_|exact Tz)
abbrev cW:List Value:=[.int .i64 3,.func (.func 81) #[] #[]]
theorem r9:Fn Tryz.prog 38 [] Tr (Is (.agg cW.toArray)):=by
 refine Fn.enter Tryz.func38 rfl rfl rfl ?_;intro w hw
 repeat (first|refine Tw ?_|(refine Tm ?_;intro _)|exact Tz)
def scN (q:Nat) (l:List Nat) (i:Nat):Nat:=zK l (q - (i+1))%q
def scL (q:Nat) (l:List Nat) (n:Nat):List Nat:=(List.range n).map (scN q l)
theorem aaU {f:Nat} [Cal Tryz.prog f] (caps:List Value) (x m:Nat) (e:Int) (R:World→Prop) (hst:zO R) (hm:0<m) (hm2:m≤100) (he:e≠0)
  (hf:Fn Tryz.prog f ([.int .i64 0]++caps) R (Is (.tuple #[ze x,.int .i64 e]))) :
  Fn Tryz.prog 57 [.int .i64 (m:Int),.func (.func f) #[] caps.toArray] R (Is (.tuple #[.slice none 0 0,.int .i64 e])):=by
 refine Fn.enter Tryz.func57 rfl rfl rfl ?_;intro w hw
 repeat (first|refine WC.loopU 1 ?_|refine Ta ?_|(refine Tm ?_;intro _)|(refine WO.makes (zP (l:=0) (c:=m) rfl rfl (by omega) (by omega) (by omega)) ?_;intro g)|refine Tc ?_|exact Tz)
 refine WC.dT rfl (by omega) ?_
 repeat (first|refine Ta ?_|(refine Tm ?_;intro _)|refine WO.acallV (hc:=hf) (hR:=fun w' hm=>hst _ _ hw hm.mod.below) (k:=?_)|refine WO.does (z6 rfl rfl he) ?_|refine Tc ?_|exact Tz)
 done
section
variable (p q g h:Nat)
theorem ju (l:List Nat) (pz:Option Addr) (c i gS gG gP:Nat) (hl:∀ a∈l,a<zc) (hn:l.length≤1099511627776) (hq:q<zc) (hb1:uD q l=true) (hi:i+1<q) (hi2:i<900) :
  Fn Tryz.prog 58 ([.int .i64 (i:Int)]++[pt gG,pt gP,pt gS]) (fun w=>Seg w gG 0 (vu p q g h)∧Seg w gP 0 [.slice pz l.length c]∧Seg w gS 0 cW∧RdF zb (.slice pz l.length c) l w) (Is (.tuple #[ze (scN q l i),.int .i64 0])):=by
 have h1:=sD i (by omega);have h2:=lC p q g h (i+1) (by omega) (by omega) hi hq;have h3:=kq p q g h l pz c (q - (i+1)) hl hn hq (by omega) hb1 (by omega);rw[show zK l (q - (i+1))%q=scN q l i from rfl] at h3;generalize scN q l i=V at *;refine Fn.enter Tryz.func58 rfl rfl rfl ?_;intro w hw;obtain⟨wG,wP,wS,wL⟩:=hw
 repeat (first|refine Tw ?_|(refine Tm ?_;intro _)|exact Tz)
 refine WC.adraw 11 (k:=?_)
 iterate 11 (first|refine Da ?_|refine DQ.does (fun s _=>zj (hs:=wG) (hle:=Nat.le_refl _) (vs:=vu p q g h)) Dp.const ?_|refine DQ.does (fun s _=>zi (hs:=wP) (hle:=Nat.le_refl _)) Dp.const ?_|refine DQ.does (fun s _=>zi (hs:=wS) (hle:=Nat.zero_le _)) Dp.const ?_|refine DQ.acallV (hc:=h1) (k:=?_)|refine DQ.acall (hc:=h2) (k:=?_)|refine DQ.acallM (hc:=h3) (hR:=fun w hm=>wL.mod hm.mod) (k:=?_)|refine Dc ?_)
 refine DQ.anil (k:=?_);intro sx _
 repeat (first|refine Tw ?_|(refine Tm ?_;intro _)|exact Tz)
 done
end
section
variable (p q g h:Nat) (l:List Nat) (pz:Option Addr) (c m:Nat)
theorem fb (hl:∀ a∈l,a<zc) (hn:l.length≤1099511627776) (hq:q<zc) (hb1:uD q l=true) (h1:1≤m) (hm:m≤3) (hmq:m<q) :
  Fn Tryz.prog 25 [.agg cW.toArray,yR p q g h,.slice pz l.length c,.int .i64 (m:Int)] (RdF zb (.slice pz l.length c) l)
   (Ex (fun s=>.tuple #[.slice (some ⟨s 0,0,none⟩) m m,.int .i64 0]) (fun s=>[⟨s 0,24,(scL q l m).flatMap zb⟩]) (fun _=>True)):=by
 have hC:=fun gS gG gP=>lT (f:=58) [pt gG,pt gP,pt gS] (scN q l) m (fun w=>Seg w gG 0 (vu p q g h)∧Seg w gP 0 [.slice pz l.length c]∧Seg w gS 0 cW∧RdF zb (.slice pz l.length c) l w)
  (fun w w' ⟨a,b,d,e⟩ hb=>⟨zO.seg w w' a hb,zO.seg w w' b hb,zO.seg w w' d hb,e.mod (.of_below hb _)⟩) (by omega) (fun i hi=>ju p q g h l pz c i gS gG gP hl hn hq hb1 (by omega) (by omega))
 refine Fn.enter Tryz.func25 rfl rfl rfl ?_;intro w hw
 repeat (first|refine Ta ?_|(refine Tm ?_;intro _)|refine WO.does (zR rfl rfl (by omega)) ?_|refine WO.does (z8 rfl rfl) ?_|refine WO.does (zD rfl rfl (by omega)) ?_|refine Tc ?_|exact Tz)
 repeat (first|refine Ta ?_|(refine Tm ?_;intro _)|refine WO.does (z8 rfl rfl) ?_|refine WO.acallX (hc:=hC _ _ _) (hR:=fun w1 hm=>⟨Hs.sg hm,Hs.sg hm,Hs.sg hm,hw.mod hm.mod⟩) (k:=fun s _=>?_)|refine Tc ?_|exact Tz)
 generalize s 0=g0
 repeat (first|refine Tw ?_|(refine Tm ?_;intro _)|exact Tz)
 exact WX.ret2 rfl (by exact zt rfl) (by exact zt rfl) [⟨g0,24,(scL q l m).flatMap zb⟩] (Lle.c Lle.nil) ⟨fun _=>g0,rfl,rfl,trivial⟩
theorem nJ (hl:∀ a∈l,a<zc) (hn:l.length≤1099511627776) (hq:q<zc) (hb1:uD q l=true) (h1:1≤m) (hm:m≤3) (hmq:m<q) :
  Fn Tryz.prog 15 [yR p q g h,.slice pz l.length c,.int .i64 (m:Int)] (RdF zb (.slice pz l.length c) l)
   (Ex (fun s=>.tuple #[.slice (some ⟨s 0,0,none⟩) m m,.int .i64 0]) (fun s=>[⟨s 0,24,(scL q l m).flatMap zb⟩]) (fun _=>True)):=by
 have hV:=fb p q g h l pz c m hl hn hq hb1 h1 hm hmq;have hN:=r9;refine Fn.enter Tryz.func15 rfl rfl rfl ?_;intro w hw
 repeat (first|refine Tw ?_|(refine Tm ?_;intro _)|exact Tz)
 refine WC.adraw 9 (k:=?_);refine DQ.acall (hc:=hN) (k:=?_)
 iterate 3 (refine DQ.auto (k:=?_))
 refine DQ.callsE (fs:=fun _=>[]) (cs:=fun _=>[]) (R:=fun _=>RdF zb (.slice pz l.length c) l) (vf:=fun _ x=>.tuple #[.slice (some ⟨x 0,0,none⟩) m m,.int .i64 0]) (Nf:=fun _ x=>[⟨x 0,24,(scL q l m).flatMap zb⟩]) (S:=fun _ _=>True) (fun _=>[]) (fun _=>.nil)
  (fun _=>⟨fun _=>0,trivial⟩) (fun _ _=>hV) (fun _=>rfl) (fun _=>rfl) (fun _=>by simp) (fun _ _ w hm=>hw.mod hm.mod) Dp.const Dp.const Dp.const ?_
 try dsimp only[List.map_cons,List.map_nil,List.cons_append,List.nil_append]
 iterate 4 (refine DQ.auto (k:=?_))
 refine DQ.anil (k:=?_);intro sx _;generalize sx 4 0=g0
 repeat (first|refine Tw ?_|(refine Tm ?_;intro _)|exact Tz)
 exact WX.ret2 rfl (by exact zt rfl) (by exact zt rfl) [⟨g0,24,(scL q l m).flatMap zb⟩] (Lle.c Lle.nil) ⟨fun _=>g0,rfl,rfl,trivial⟩
end
section
variable {w0:World} {gs:List Nat} {K:List (Nat × Value)} {L:List Ent}
theorem uk {x y:Operand} {yt ty:TypeId} {a b:Nat} {r:Bool} (hx:ev K x=some (ze a)) (hy:ev K y=some (ze b)) (ha:a<zc) (hb:b<zc) (hr:decide (a≠b)=r) :
  Does Tryz.prog w0 gs K L (.binOp .neq 24 x y yt) ty (.bool r):=by
 subst hr;have:=vH (w0:=w0) (gs:=gs) (L:=L) (yt:=yt) (ty:=ty) hx hy ha hb;simpa using this
end
section
variable {w0:World} {gs:List Nat} {K:List (Nat × Value)} {L:List Ent}
theorem et (b:Bool) (w:World):(binOp .neq 4 (.bool b) (.bool b)).run Tryz.prog w=.ok (.bool false) w:=by cases b<;>kernel_rfl
theorem mE (op:BinOp) (x y:Operand) (a b:Bool) (w:World):(eqGuard op 4 x y (.bool a) (.bool b)).run Tryz.prog w=.ok () w:=by cases op<;>kernel_rfl
theorem pR {x y:Operand} {yt ty:TypeId} {b:Bool} (hx:ev K x=some (.bool b)) (hy:ev K y=some (.bool b)):Does Tryz.prog w0 gs K L (.binOp .neq 4 x y yt) ty (.bool false):=by
 intro ac w hk _ o ho _;simp only[execOp,ho,hk.eval hx,hk.eval hy,Sem.run_bind,mE,Result.andThen_ok,et,Sem.run_pure]
end
theorem sy (xs:List (Nat)) (pa pb:Option Addr) (ca cb:Nat) (hn:xs.length≤100) :
  Fn Tryz.prog 17 [.slice pa xs.length ca,.slice pb xs.length cb] (fun w=>RdF zb (.slice pa xs.length ca) xs w∧RdF zb (.slice pb xs.length cb) xs w) (Is (.bool true)):=by
 have d0:decide ((xs.length:Int)≠(xs.length:Int))=false:=decide_eq_false (fun h=>h rfl);refine Fn.enter Tryz.func17 rfl rfl rfl ?_;intro w hw;obtain⟨hwA,hwB⟩:=hw
 repeat (first|refine Tw ?_|(refine Tm ?_;intro _)|exact Tz)
 rw[d0]
 repeat (first|refine Tw ?_|(refine Tm ?_;intro _)|exact Tz)
 refine WC.loopI (σ:=Nat) (fun i=>i≤xs.length) (fun i=>[(0,.slice pa xs.length ca),(1,.slice pb xs.length cb),(5,.int .i64 (i:Int))]) (fun i=>[]) (fun i=>xs.length - i) 0 (fun i hi=>?_) (Nat.zero_le _)
 try dsimp only at hi ⊢
 by_cases hlt:i<xs.length
 ·obtain⟨x,hx⟩ : ∃ x,xs[i]?=some x:=⟨_,List.getElem?_eq_getElem hlt⟩;obtain⟨b,o,rfl,_,hs⟩:=hwA.get hx;obtain⟨b2,o2,rfl,_,hs2⟩:=hwB.get hx;have hadd2:IntKind.i64.wrap ((i:Int)+1)=((i+1:Nat):Int):=zn (by omega) (by omega) (by omega);have hcx:cut (xs.flatMap zb) (o+i*4 - o) 4=zb x:=by rw[Nat.add_sub_cancel_left];exact zA zu hx
  have hcy:cut (xs.flatMap zb) (o2+i*4 - o2) 4=zb x:=by rw[Nat.add_sub_cancel_left];exact zA zu hx
  repeat (first|refine Tw ?_|(refine Tm ?_;intro _)|exact Tz)
  refine WC.dT rfl (by omega) ?_
  repeat (first|refine Tw ?_|(refine Tm ?_;intro _)|exact Tz)
  refine WC.adraw 9 (k:=?_)
  iterate 2 (refine DQ.auto (k:=?_))
  refine DQ.does (fun s _=>za (o':=o+i*4) rfl rfl hlt rfl) Dp.const ?_;refine DQ.does (fun s _=>zj (vs:=zb x) (hs:=hs) (hle:=Nat.le_add_right _ _) (hc:=hcx)) Dp.const ?_
  iterate 2 (refine DQ.auto (k:=?_))
  refine DQ.does (fun s _=>za (o':=o2+i*4) rfl rfl hlt rfl) Dp.const ?_;refine DQ.does (fun s _=>zj (vs:=zb x) (hs:=hs2) (hle:=Nat.le_add_right _ _) (hc:=hcy)) Dp.const ?_;refine DQ.does (fun s _=>ml rfl rfl (fun w=>cr x w) (fun w=>vU _ _ _ _ _ w)) Dp.const ?_;refine DQ.anil (k:=?_);intro sx _
  repeat (first|refine Ta ?_|(refine Tm ?_;intro _)|refine WO.does (zf rfl rfl hadd2) ?_|refine Tc ?_|exact Tz)
  exact WX.metI (i+1) (hs:=⟨by show i+1≤xs.length;omega,by show xs.length - (i+1)<xs.length - i;omega⟩)
 ·have hi2:i=xs.length:=by omega
  subst hi2
  repeat (first|refine Tw ?_|(refine Tm ?_;intro _)|exact Tz)
  refine WC.dF rfl (by omega) ?_
  repeat (first|refine Tw ?_|(refine Tm ?_;intro _)|exact Tz)
theorem nR {n:Nat} (h:n<100:=by decide):n<zc:=Nat.lt_trans h (qp (by decide))
theorem RdF.nilV {α:Type} {f:α→List Value} {w:World} {c:Nat}:RdF f (.slice none 0 c) [] w:=⟨_,_,rfl,.inl ⟨rfl,rfl⟩⟩
theorem RdF.ownO {α:Type} {f:α→List Value} {xs:List α} {r:List Value} {w:World} {g n c:Nat} (hs:Seg w g 0 (xs.flatMap f++r)) (hn:xs.length=n):RdF f (.slice (some ⟨g,0,none⟩) n c) xs w:=by
 subst hn;exact RdF.seg hs
theorem RdF.ownM {α:Type} {f:α→List Value} {xs:List α} {w:World} {g n c:Nat} (hs:Seg w g 0 (xs.flatMap f)) (hn:xs.length=n):RdF f (.slice (some ⟨g,0,none⟩) n c) xs w:=by
 subst hn;exact⟨_,_,rfl,.inr ⟨g,0,rfl,hs⟩⟩
theorem fj {A C vs:List Value} {j n:Nat} (hn:A.length=n):over (A++C) (n+j) vs=A++over C j vs:=by
 subst hn;unfold over;rw[List.take_append,List.drop_append,List.take_of_length_le (by omega),List.drop_of_length_le (by omega),List.nil_append,show A.length+j - A.length=j by omega,show A.length+j+vs.length - A.length=j+vs.length by omega];simp only[List.append_assoc]
end Sx
end
end Go.Proofs.YtbhblpnjhkddbaaGreat
