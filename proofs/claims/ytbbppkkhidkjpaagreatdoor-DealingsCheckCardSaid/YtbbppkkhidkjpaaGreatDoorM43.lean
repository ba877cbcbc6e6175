/- Part 43 of the proof. -/
import Derived.Test.YtbbppkkhidkjpaaGreatDoorM38
import Derived.Test.YtbbppkkhidkjpaaGreatDoorM41
import Derived.Test.YtbbppkkhidkjpaaGreatDoorM42
set_option linter.unusedSimpArgs false
set_option linter.unusedVariables false
set_option maxHeartbeats 8000000
namespace Go.Proofs.YtbbppkkhidkjpaaGreatDoor
section
open Go Go.RowKit Go.BigFrame
namespace Sx
attribute [local irreducible] DQ DQS WC WO WX wd
theorem ae (n:Nat) (hn:n<4611686018427387904):Fn Tryz.prog 159 [.int .i64 (n:Int)] Tr (Is (.int .i64 ((n+1:Nat):Int))):=by
 have ha:IntKind.i64.wrap ((n:Int)+1)=((n+1:Nat):Int):=zl (by omega) (by omega) (by omega);refine Fn.enter Tryz.func159 rfl rfl rfl ?_;intro w hw
 repeat (first|refine Ta ?_|(refine Tm ?_;intro _)|refine WO.does (zh rfl rfl ha) ?_|refine Tc ?_|exact Tz)
abbrev ab:List Value:=[.int .i64 7,.func (.func 159) #[] #[]]
theorem ab8:Fn Tryz.prog 102 [] Tr (Is (.agg ab.toArray)):=by
 refine Fn.enter Tryz.func102 rfl rfl rfl ?_;intro w hw
 repeat (first|refine Tw ?_|(refine Tm ?_;intro _)|exact Tz)
section
variable (p q g h:Nat)
theorem dN (l:List Nat) (pz:Option Addr) (c i gS gG gP:Nat) (hl:∀ a∈l,a<zb) (hn:l.length≤1099511627776) (hq:q<zb) (hb1:uE q l=true) (hi:i+1<q) (hi2:i<1000) :
  Fn Tryz.prog 161 ([.int .i64 (i:Int)]++[pt gG,pt gP,pt gS]) (fun w=>Seg w gG 0 (zR p q g h)∧Seg w gP 0 [.slice pz l.length c]∧Seg w gS 0 ab∧RdF zc (.slice pz l.length c) l w) (Is (.tuple #[zf (shN q l i),.int .i64 0])):=by
 have h1:=ae i (by omega);have h2:=j0 p q g h (i+1) (by omega) hq;rw[q8 q (i+1) (by omega),Nat.mod_eq_of_lt hi] at h2;have h3:=eu p q g h l pz c (i+1) hl hn hq (Nat.lt_trans hi hq) hb1 hi;rw[show y9 l (i+1)%q=shN q l i from rfl] at h3;generalize shN q l i=V at *;refine Fn.enter Tryz.func161 rfl rfl rfl ?_;intro w hw;obtain⟨wG,wP,wS,wL⟩:=hw
 repeat (first|refine Tw ?_|(refine Tm ?_;intro _)|exact Tz)
 refine WC.adraw 11 (k:=?_)
 iterate 11 (first|refine Da ?_|refine DQ.does (fun s _=>zk (hs:=wG) (hle:=Nat.le_refl _) (vs:=zR p q g h)) Dp.const ?_|refine DQ.does (fun s _=>zi (hs:=wP) (hle:=Nat.le_refl _)) Dp.const ?_|refine DQ.does (fun s _=>zi (hs:=wS) (hle:=Nat.zero_le _)) Dp.const ?_|refine DQ.acallV (hc:=h1) (k:=?_)|refine DQ.acall (hc:=h2) (k:=?_)|refine DQ.acallM (hc:=h3) (hR:=fun w hm=>wL.mod hm.mod) (k:=?_)|refine Dc ?_)
 refine DQ.anil (k:=?_);intro sx _
 repeat (first|refine Tw ?_|(refine Tm ?_;intro _)|exact Tz)
 done
end
theorem adI {f:Nat} [Cal Tryz.prog f] (caps:List Value) (V:Nat→Nat) (m:Nat) (R:World→Prop) (hst:yu R) (hm:m≤100)
  (hf:∀ i,i<m→Fn Tryz.prog f ([.int .i64 (i:Int)]++caps) R (Is (.tuple #[zf (V i),.int .i64 0]))) :
  Fn Tryz.prog 160 [.int .i64 (m:Int),.func (.func f) #[] caps.toArray] R
   (Ex (fun s=>.tuple #[.slice (some ⟨s 0,0,none⟩) m m,.int .i64 0]) (fun s=>[⟨s 0,24,((List.range m).map V).flatMap zc⟩]) (fun _=>True)):=by
 refine Fn.enter Tryz.func160 rfl rfl rfl ?_;intro w hw
 repeat (first|refine Ta ?_|(refine Tm ?_;intro _)|(refine WO.makes (zY (l:=0) (c:=m) rfl rfl (by omega) (by omega) (by omega)) ?_;intro g)|refine Tc ?_|exact Tz)
 refine WC.loopI (σ:=Nat) (fun i=>i≤m) (fun i=>[(1,.func (.func f) #[] caps.toArray),(5,.int .i64 0),(6,.slice (some ⟨g,0,none⟩) i m),(12,.int .i64 (m:Int)),(13,.int .i64 (i:Int))]) (fun i=>[⟨g,24,((List.range i).map V).flatMap zc++mkz (m - i) (zc 0)⟩]) (fun i=>m - i) 0 (fun i hi=>?_) (Nat.zero_le _)
 try dsimp only at hi ⊢
 by_cases hlt:i<m
 ·have hadd2:IntKind.i64.wrap ((i:Int)+1)=((i+1:Nat):Int):=zl (by omega) (by omega) (by omega);have hcall:=hf i hlt;have hx:((List.range m).map V)[i]?=some (V i):=by simp[hlt]
  have htk:∀ j,j≤m→((List.range m).map V).take j=(List.range j).map V:=fun j hj=>by rw[← List.map_take,List.take_range,Nat.min_eq_left hj]
  have hov:=sT (f:=zc) (z:=zc 0) (m:=m - i) zy rfl hx (by omega);rw[htk i (by omega),htk (i+1) (by omega),show m - i - 1=m - (i+1) by omega] at hov;have hle:i*(zc 0).length+(zc (V i)).length≤(((List.range i).map V).flatMap zc++mkz (m - i) (zc 0)).length:=by
   rw[List.length_append,zG zy,zC,List.length_map,List.length_range];show i*4+4≤i*4+(m - i)*4;have:1*4≤(m - i)*4:=Nat.mul_le_mul_right _ (by omega);omega
  repeat (first|refine Tw ?_|(refine Tm ?_;intro _)|exact Tz)
  refine WC.dT rfl (by omega) ?_
  repeat (first|refine Ta ?_|(refine Tm ?_;intro _)|refine WO.acallV (hc:=hcall) (hR:=fun w' hm=>hst _ _ hw hm.mod.below) (k:=?_)|refine Tc ?_|exact Tz)
  repeat (first|refine Ta ?_|(refine Tm ?_;intro _)|(refine WO.makes (ze (t:=30) (cs:=zc (V i)) rfl (by decide) rfl) ?_;intro g2)|refine WO.both (vM (s:=undef) (z:=zc 0) rfl rfl (Rds.own (m:=4) Hs.here rfl) rfl (by omega) rfl (by repeat (first|exact Rp.here|apply Rp.there)) hov hle rfl (by decide)) ?_|refine WO.does (zh rfl rfl hadd2) ?_|refine Tc ?_|exact Tz)
  exact WX.metI (i+1) (hs:=⟨by show i+1≤m;omega,by show m - (i+1)<m - i;omega⟩)
 ·have hi2:i=m:=by omega
  subst hi2;rw[Nat.sub_self,show mkz 0 (zc 0)=[] from rfl,List.append_nil]
  repeat (first|refine Tw ?_|(refine Tm ?_;intro _)|exact Tz)
  refine WC.dF rfl (by omega) ?_
  repeat (first|refine Tw ?_|(refine Tm ?_;intro _)|exact Tz)
  exact WX.ret2 rfl (by exact zt rfl) (by exact zt rfl) [⟨g,24,((List.range i).map V).flatMap zc⟩] (Lle.c Lle.nil) ⟨fun _=>g,rfl,rfl,trivial⟩
section
variable (p q g h:Nat) (l:List Nat) (pz:Option Addr) (c m:Nat)
theorem bF (hl:∀ a∈l,a<zb) (hn:l.length≤1099511627776) (hq:q<zb) (hb1:uE q l=true) (h1:1≤m) (hm:m≤7) (hmq:m<q) :
  Fn Tryz.prog 103 [.agg ab.toArray,yd p q g h,.slice pz l.length c,.int .i64 (m:Int)] (RdF zc (.slice pz l.length c) l)
   (Ex (fun s=>.tuple #[.slice (some ⟨s 0,0,none⟩) m m,.int .i64 0]) (fun s=>[⟨s 0,24,(shL q l m).flatMap zc⟩]) (fun _=>True)):=by
 have hC:=fun gS gG gP=>adI (f:=161) [pt gG,pt gP,pt gS] (shN q l) m (fun w=>Seg w gG 0 (zR p q g h)∧Seg w gP 0 [.slice pz l.length c]∧Seg w gS 0 ab∧RdF zc (.slice pz l.length c) l w)
  (fun w w' ⟨a,b,d,e⟩ hb=>⟨yu.seg w w' a hb,yu.seg w w' b hb,yu.seg w w' d hb,e.mod (.of_below hb _)⟩) (by omega) (fun i hi=>dN p q g h l pz c i gS gG gP hl hn hq hb1 (by omega) (by omega))
 refine Fn.enter Tryz.func103 rfl rfl rfl ?_;intro w hw
 repeat (first|refine Ta ?_|(refine Tm ?_;intro _)|refine WO.does (yQ rfl rfl (by omega)) ?_|refine WO.does (zU rfl rfl) ?_|refine WO.does (yH rfl rfl (by omega)) ?_|refine Tc ?_|exact Tz)
 repeat (first|refine Ta ?_|(refine Tm ?_;intro _)|refine WO.does (zU rfl rfl) ?_|refine WO.acallX (hc:=hC _ _ _) (hR:=fun w1 hm=>⟨Hs.sg hm,Hs.sg hm,Hs.sg hm,hw.mod hm.mod⟩) (k:=fun s _=>?_)|refine Tc ?_|exact Tz)
 generalize s 0=g0
 repeat (first|refine Tw ?_|(refine Tm ?_;intro _)|exact Tz)
 exact WX.ret2 rfl (by exact zt rfl) (by exact zt rfl) [⟨g0,24,(shL q l m).flatMap zc⟩] (Lle.c Lle.nil) ⟨fun _=>g0,rfl,rfl,trivial⟩
theorem adG (hl:∀ a∈l,a<zb) (hn:l.length≤1099511627776) (hq:q<zb) (hb1:uE q l=true) (h1:1≤m) (hm:m≤7) (hmq:m<q) :
  Fn Tryz.prog 49 [yd p q g h,.slice pz l.length c,.int .i64 (m:Int)] (RdF zc (.slice pz l.length c) l)
   (Ex (fun s=>.tuple #[.slice (some ⟨s 0,0,none⟩) m m,.int .i64 0]) (fun s=>[⟨s 0,24,(shL q l m).flatMap zc⟩]) (fun _=>True)):=by
 have hV:=bF p q g h l pz c m hl hn hq hb1 h1 hm hmq;have hN:=ab8;refine Fn.enter Tryz.func49 rfl rfl rfl ?_;intro w hw
 repeat (first|refine Tw ?_|(refine Tm ?_;intro _)|exact Tz)
 refine WC.adraw 9 (k:=?_);refine DQ.acall (hc:=hN) (k:=?_)
 iterate 3 (refine DQ.auto (k:=?_))
 refine DQ.callsE (fs:=fun _=>[]) (cs:=fun _=>[]) (R:=fun _=>RdF zc (.slice pz l.length c) l) (vf:=fun _ x=>.tuple #[.slice (some ⟨x 0,0,none⟩) m m,.int .i64 0]) (Nf:=fun _ x=>[⟨x 0,24,(shL q l m).flatMap zc⟩]) (S:=fun _ _=>True) (fun _=>[]) (fun _=>.nil)
  (fun _=>⟨fun _=>0,trivial⟩) (fun _ _=>hV) (fun _=>rfl) (fun _=>rfl) (fun _=>by simp) (fun _ _ w hm=>hw.mod hm.mod) Dp.const Dp.const Dp.const ?_
 try dsimp only[List.map_cons,List.map_nil,List.cons_append,List.nil_append]
 iterate 4 (refine DQ.auto (k:=?_))
 refine DQ.anil (k:=?_);intro sx _;generalize sx 4 0=g0
 repeat (first|refine Tw ?_|(refine Tm ?_;intro _)|exact Tz)
 exact WX.ret2 rfl (by exact zt rfl) (by exact zt rfl) [⟨g0,24,(shL q l m).flatMap zc⟩] (Lle.c Lle.nil) ⟨fun _=>g0,rfl,rfl,trivial⟩
end
section
variable (p q g h:Nat) (f sec:Int) (ns:Value)
theorem acX (l:List Nat) (pz:Option Addr) (c:Nat) (hl:∀ a∈l,a<zb) (hn:l.length≤1099511627776) (hq:q<zb) (hf:0≤f∧0≤sec∧f+sec≤5) :
  Fn Tryz.prog 48 [stV p q g h f sec ns,.slice pz l.length c] (RdF zc (.slice pz l.length c) l) (Is (.bool (decide ((l.length:Int)=f+sec) && uE q l))):=by
 have hadd:IntKind.i64.wrap (f+sec)=f+sec:=i64_in (by omega) (by omega);cases hb:uE q l with
 | true =>
  have hA:=eu p q g h l pz c 0 hl hn hq (vE (by decide)) hb (by have:=(uA hb).1;omega);generalize y9 l 0%q=V at *;rw[Bool.and_true];refine Fn.enter Tryz.func48 rfl rfl rfl ?_;intro w hw
  repeat (first|refine Ta ?_|(refine Tm ?_;intro _)|refine WO.acallR (hc:=hA) (hR:=fun w1 hm=>hw.mod hm.mod) (k:=?_)|refine WO.does (zh rfl rfl hadd) ?_|refine Tc ?_|exact Tz)
  by_cases he:(l.length:Int)=f+sec
  ·have d:decide ((l.length:Int)=f+sec)=true:=decide_eq_true he;rw[d]
   repeat (first|refine Tw ?_|(refine Tm ?_;intro _)|exact Tz)
  ·have d:decide ((l.length:Int)=f+sec)=false:=decide_eq_false he;rw[d]
   repeat (first|refine Tw ?_|(refine Tm ?_;intro _)|exact Tz)
 | false =>
  have hA:=ac6 p q g h l pz c 0 hl hn hq (vE (by decide)) (by rw[hb,Bool.false_and]);rw[Bool.and_false];refine Fn.enter Tryz.func48 rfl rfl rfl ?_;intro w hw
  repeat (first|refine Ta ?_|(refine Tm ?_;intro _)|refine WO.acallR (hc:=hA) (hR:=fun w1 hm=>hw.mod hm.mod) (k:=?_)|refine WO.does (zh rfl rfl hadd) ?_|refine Tc ?_|exact Tz)
  by_cases he:(l.length:Int)=f+sec
  ·have d:decide ((l.length:Int)=f+sec)=true:=decide_eq_true he;rw[d]
   repeat (first|refine Tw ?_|(refine Tm ?_;intro _)|exact Tz)
  ·have d:decide ((l.length:Int)=f+sec)=false:=decide_eq_false he;rw[d]
   repeat (first|refine Tw ?_|(refine Tm ?_;intro _)|exact Tz)
end
section
open Kp
variable {P:Program} {w0:World} {gs:List Nat} {n:Nat} {fl:List Nat} {Q:Exit→Act→World→Prop} {ops:List Oper} {L0:List Ent}
variable {tail rest:List Oper} {i:Nat} {C:zF→Prop} {K:zF→List (Nat × Value)} {N:zF→List (Nat × Ent)}
variable {d:Nat} {op:Op} {ty:TypeId} {pos:String} {after:Array Edge} {gd:Option (Nat × Bool)}
theorem DQ.acallS {f:FuncId} [Cal P f] {xs:Array Operand} {ats:Array TypeId} {vs:List Value} {Rq:World→Prop} {t m:Nat} {cs:List Value} (hc:Fn P f vs Rq (aal t m cs)) (hR:∀ w,Rq w) (ha:∀ s,evs (K s) xs.toList=some vs:=by (intro s;rfl))
  (k:DQ P w0 gs n fl Q ops L0 tail (i+1) rest (fun s=>C s∧True) (fun s=>(d,.slice (some ⟨s i 0,0,none⟩) m m)::K s) (fun s=>(i,⟨s i 0,t,cs⟩)::N s))
  (hfl:fl.contains i=false:=by rfl) (hw:∀ s,wk ops (K s) gd=some true:=by intro _;rfl) (hd:Nat.blt d n=true:=by rfl) :
  DQ P w0 gs n fl Q ops L0 tail i (⟨some d,.call { callee:=.value (.func f),args:=xs,argTypes:=ats },ty,pos,after,gd⟩::rest) C K N :=
 DQ.callsE (fs:=fun _=>[]) (cs:=fun _=>[]) (R:=fun _=>Rq) (vf:=fun _ x=>.slice (some ⟨x 0,0,none⟩) m m) (Nf:=fun _ x=>[⟨x 0,t,cs⟩]) (S:=fun _ _=>True) (fun _=>[]) (fun _=>.nil)
  (fun _=>⟨fun _=>0,trivial⟩) (fun _ _=>Fn.weak hc (fun _ h=>h) (fun v N ⟨g,e1,e2⟩=>⟨fun _=>g,e1,e2,trivial⟩)) (fun _=>rfl) ha (fun _=>by simp) (fun _ _ w _=>hR w) Dp.const Dp.const Dp.const k hfl hw hd
end
theorem RdF.get {α:Type} {f:α→List Value} {pz:Option Addr} {n c:Nat} {xs:List α} {w:World} (h:RdF f (.slice pz n c) xs w) {i:Nat} {x:α} (hx:xs[i]?=some x):∃ b o,pz=some ⟨b,o,none⟩∧n=xs.length∧Seg w b o (xs.flatMap f):=by
 obtain⟨p,c',e,h⟩:=h;cases e
 rcases h with ⟨_,rfl⟩|⟨b,o,rfl,hs⟩
 ·simp at hx
 ·exact⟨b,o,rfl,rfl,hs⟩
def lgV (g n:Nat):Nat→Value
 | 0=>.slice none 0 0
 | _+1=>.slice (some ⟨g,0,none⟩) n n
def lgL (g:Nat) (B:List Nat):Nat→List Ent
 | 0=>[]
 | _+1=>[⟨g,5,byC B⟩]
theorem aaG (l:List Nat) (pz:Option Addr) (c:Nat) (hl:l≠[]) (hn:l.length≤8589934592) :
  Fn Tryz.prog 42 [.slice pz l.length c] (RdF zc (.slice pz l.length c) l) (aal 5 (l.flatMap (be 32)).length (byC (l.flatMap (be 32)))):=by
 refine Fn.enter Tryz.func42 rfl rfl rfl ?_;intro w hw
 repeat (first|refine Tw ?_|(refine Tm ?_;intro _)|exact Tz)
 refine WC.loopI (σ:=Nat × Nat) (fun s=>s.1≤l.length) (fun s=>[(2,lgV s.2 ((l.take s.1).flatMap (be 32)).length s.1),(5,.slice pz l.length c),(6,.int .i64 (l.length:Int)),(7,.int .i64 (s.1:Int))])
  (fun s=>lgL s.2 ((l.take s.1).flatMap (be 32)) s.1) (fun s=>l.length - s.1) (0,0) (fun s hi=>?_) (Nat.zero_le _)
 obtain⟨i,g⟩:=s
 try dsimp only at hi ⊢
 by_cases hlt:i<l.length
 ·obtain⟨x,hx⟩ : ∃ x,l[i]?=some x:=⟨_,List.getElem?_eq_getElem hlt⟩;obtain⟨b,o,rfl,_,hs⟩:=hw.get hx;have hadd2:IntKind.i64.wrap ((i:Int)+1)=((i+1:Nat):Int):=zl (by omega) (by omega) (by omega);have hcx:cut (l.flatMap zc) (o+i*4 - o) 4=zc x:=by rw[Nat.add_sub_cancel_left];exact zx zy hx
  have hst:(l.take i).flatMap (be 32)++be 32 x=(l.take (i+1)).flatMap (be 32):=by rw[List.take_add_one,hx];simp
  have hBl:((l.take i).flatMap (be 32)).length≤549755813888:=by rw[vp,List.length_take];omega
  generalize hB2:(l.take (i+1)).flatMap (be 32)=B2 at *
  rcases i with _|i
  ·have hP:=tZ [] x 0 none (by decide);rw[show []++be 32 x=B2 by rw[← hst];rfl] at hP
   repeat (first|refine Tw ?_|(refine Tm ?_;intro _)|exact Tz)
   refine WC.dT rfl (by omega) ?_
   repeat (first|refine Ta ?_|(refine Tm ?_;intro _)|refine WO.does (za (o':=o+0*4) rfl rfl hlt rfl) ?_|refine WO.does (zk (vs:=zc x) (hs:=hs) (hle:=Nat.le_add_right _ _) (hc:=hcx)) ?_|refine WO.acallN (hc:=hP) (hR:=fun _ _=>Rd.nil) (k:=fun g'=>?_)|refine Tc ?_|exact Tz)
   repeat (first|refine Ta ?_|(refine Tm ?_;intro _)|refine WO.does (zh rfl rfl hadd2) ?_|refine Tc ?_|exact Tz)
   subst hB2;exact WX.metI (1,g') (hs:=⟨by show 0+1≤l.length;omega,by show l.length - (0+1)<l.length - 0;omega⟩)
  ·have hP:=tZ ((l.take (i+1)).flatMap (be 32)) x ((l.take (i+1)).flatMap (be 32)).length (some ⟨g,0,none⟩) hBl;rw[hst] at hP;generalize (l.take (i+1)).flatMap (be 32)=B1 at *
   try dsimp only[lgV,lgL]
   repeat (first|refine Tw ?_|(refine Tm ?_;intro _)|exact Tz)
   refine WC.dT rfl (by omega) ?_
   repeat (first|refine Ta ?_|(refine Tm ?_;intro _)|refine WO.does (za (o':=o+(i+1)*4) rfl rfl hlt rfl) ?_|refine WO.does (zk (vs:=zc x) (hs:=hs) (hle:=Nat.le_add_right _ _) (hc:=hcx)) ?_|refine WO.acallN (hc:=hP) (hR:=fun w1 hm=>Rd.of (Hs.sg hm)) (k:=fun g'=>?_)|refine Tc ?_|exact Tz)
   repeat (first|refine Ta ?_|(refine Tm ?_;intro _)|refine WO.does (zh rfl rfl hadd2) ?_|refine Tc ?_|exact Tz)
   subst hB2;exact WX.metI (i+1+1,g') (hs:=⟨by show i+1+1≤l.length;omega,by show l.length - (i+1+1)<l.length - (i+1);omega⟩)
 ·have hi2:i=l.length:=by omega
  subst hi2;rw[List.take_length];cases l with
  | nil=>exact absurd rfl hl
  | cons a r =>
   try dsimp only[lgV,lgL,List.length_cons]
   repeat (first|refine Tw ?_|(refine Tm ?_;intro _)|exact Tz)
   refine WC.dF rfl (by omega) ?_
   repeat (first|refine Tw ?_|(refine Tm ?_;intro _)|exact Tz)
   exact WX.retN
theorem bB {d:Nat} (hd:d<256):byC (be 1 d)=[.int .u8 (d:Int)]:=by rw[acE hd];simp[byC]
def agV (g c n:Nat):Nat→Value
 | 0=>.slice none 0 0
 | _+1=>.slice (some ⟨g,0,none⟩) n c
def agL (g:Nat) (B:List Nat) (r:List Value):Nat→List Ent
 | 0=>[]
 | _+1=>[⟨g,5,byC B++r⟩]
abbrev be2 (k:Nat × Nat):List Nat:=be 32 k.1++be 32 k.2
def naL (g:Nat) (B r:List Value):Nat→List Ent
 | 0=>[]
 | _+1=>[⟨g,24,B++r⟩]
def aew (m:Nat) (cs:List Value):Value→List Ent→Prop:=fun v N=>∃ g c r,v=.tuple #[.slice (some ⟨g,0,none⟩) m c,.int .i64 0]∧N=[⟨g,24,cs++r⟩]
section
variable (p q g h:Nat) (l:List Nat) (pz:Option Addr) (c m:Nat)
theorem iD (hl:∀ a∈l,a<zb) (hn:l.length≤1099511627776) (hq:q<zb) (hb1:uE q l=true) (h1:1≤m) (hm:m≤7) (hmq:m<q) :
  Fn Tryz.prog 107 [yd p q g h,.slice pz l.length c,.int .i64 (m:Int),.int .i64 1] (RdF zc (.slice pz l.length c) l) (aew m ((shL q l m).flatMap zc)):=by
 refine Fn.enter Tryz.func107 rfl rfl rfl ?_;intro w hw
 repeat (first|refine Tw ?_|(refine Tm ?_;intro _)|exact Tz)
 rename_i gG
 refine WC.loopI (σ:=Nat × Nat × Nat × List Value) (fun s=>s.1≤m∧(0<s.1→(((shL q l s.1).flatMap zc)++s.2.2.2).length=s.2.2.1*4∧s.2.2.1<9223372036854775808∧s.1≤s.2.2.1)) (fun s=>[(1,.slice pz l.length c),(2,.int .i64 (m:Int)),(3,.int .i64 1),(4,pt gG),(9,.int .i64 0),(10,agV s.2.1 s.2.2.1 s.1 s.1),(11,.int .i64 ((s.1+1:Nat):Int))])
  (fun s=>naL s.2.1 ((shL q l s.1).flatMap zc) s.2.2.2 s.1++[⟨gG,26,zR p q g h⟩]) (fun s=>m - s.1) (0,0,0,[]) (fun s hi=>?_) ⟨Nat.zero_le _,fun h=>absurd h (by decide)⟩
 obtain⟨i,g0,c0,r⟩:=s
 try dsimp only at hi ⊢
 obtain⟨hi,hr⟩:=hi
 by_cases hlt:i<m
 ·have hadd2:IntKind.i64.wrap (((i+1:Nat):Int)+1)=((i+1+1:Nat):Int):=zl (by omega) (by omega) (by omega);have hmul:IntKind.i64.wrap ((1:Int)*((i+1:Nat):Int))=((i+1:Nat):Int):=by rw[Int.one_mul];exact i64_in (by omega) (by omega)
  have h2:=lT p q g h (i+1) (by omega) hq;rw[q8 q (i+1) (by omega),Nat.mod_eq_of_lt (by omega)] at h2;have h3:=er p q g h l pz c (i+1) hl hn hq (Nat.lt_trans (by omega) hq) hb1 (by omega);rw[show y9 l (i+1)%q=shN q l i from rfl] at h3;have hst:(shL q l i).flatMap zc++zc (shN q l i)=(shL q l (i+1)).flatMap zc:=by unfold shL;rw[qG,List.flatMap_append];simp
  have hBl:((shL q l i).flatMap zc).length=i*4:=by rw[zG zy,fy]
  generalize hB2:(shL q l (i+1)).flatMap zc=B2 at *;generalize shN q l i=V at *
  rcases i with _|i
  ·try dsimp only[agV,naL,List.nil_append]
   have hst' : zc V=B2:=by rw[← hst];rfl
   repeat (first|refine Tw ?_|(refine Tm ?_;intro _)|exact Tz)
   refine WC.dT rfl (by omega) ?_
   repeat (first|refine Tw ?_|(refine Tm ?_;intro _)|exact Tz)
   refine WC.adrawF [10] 12 (k:=?_)
   repeat (first|refine Da ?_|refine DQ.acall (hc:=h2) (k:=?_)|refine DQ.does (fun s _=>z6 rfl rfl hmul) Dp.const ?_|refine DQ.acallM (hc:=h3) (hR:=fun w hm=>hw.mod hm.mod) (k:=?_)|refine Df ?_)
   refine DQ.anil (k:=?_);intro sx _
   repeat (first|refine Ta ?_|(refine Tm ?_;intro _)|refine WO.does (vk rfl rfl rfl) ?_|(refine WO.makes (ze (cs:=zc V) rfl (by decide) rfl) ?_;intro _)|refine Tc ?_|exact Tz)
   refine WO.appN (z:=zc 0) (m:=1) rfl rfl rfl (Rds.own (m:=4) Hs.here rfl) rfl (by decide) (by decide) (by decide) (by decide) (fun g1 c1 r1 a1 a2 a3=>?_);rw[hst'] at a1 ⊢
   repeat (first|refine Ta ?_|(refine Tm ?_;intro _)|refine WO.does (zh rfl rfl hadd2) ?_|refine Tc ?_|exact Tz)
   subst hB2;exact WX.metI (1,g1,c1,r1) (hs:=⟨⟨by show 0+1≤m;omega,fun _=>⟨a1,a2,a3⟩⟩,by show m - (0+1)<m - 0;omega⟩)
  ·obtain⟨r1,r2,r3⟩:=hr (by omega);generalize (shL q l (i+1)).flatMap zc=B1 at *
   try dsimp only[agV,naL,List.cons_append,List.nil_append]
   repeat (first|refine Tw ?_|(refine Tm ?_;intro _)|exact Tz)
   refine WC.dT rfl (by omega) ?_
   repeat (first|refine Tw ?_|(refine Tm ?_;intro _)|exact Tz)
   refine WC.adrawF [10] 12 (k:=?_)
   repeat (first|refine Da ?_|refine DQ.acall (hc:=h2) (k:=?_)|refine DQ.does (fun s _=>z6 rfl rfl hmul) Dp.const ?_|refine DQ.acallM (hc:=h3) (hR:=fun w hm=>hw.mod hm.mod) (k:=?_)|refine Df ?_)
   refine DQ.anil (k:=?_);intro sx _
   repeat (first|refine Ta ?_|(refine Tm ?_;intro _)|refine WO.does (vk rfl rfl rfl) ?_|(refine WO.makes (ze (cs:=zc V) rfl (by decide) rfl) ?_;intro _)|refine Tc ?_|exact Tz)
   refine WO.appK (z:=zc 0) (m:=1) (l:=i+1+1) rfl rfl rfl (xs:=B1) (r:=r) (ys:=zc V) hBl r1 Pk.a (Rds.own (m:=4) Hs.here rfl) rfl rfl rfl (by omega) r2 (by omega) (by decide) (by decide) (fun g1 c1 r1 a1 a2 a3=>?_);rw[hst] at a1 ⊢
   repeat (first|refine Ta ?_|(refine Tm ?_;intro _)|refine WO.does (zh rfl rfl hadd2) ?_|refine Tc ?_|exact Tz)
   subst hB2;exact WX.metI (i+1+1,g1,c1,r1) (hs:=⟨⟨by show i+1+1≤m;omega,fun _=>⟨a1,a2,a3⟩⟩,by show m - (i+1+1)<m - (i+1);omega⟩)
 ·have hi2:i=m:=by omega
  subst hi2;generalize (shL q l i).flatMap zc=B at *;obtain⟨i,rfl⟩ : ∃ k,i=k+1:=⟨i - 1,by omega⟩
  try dsimp only[agV,naL,List.cons_append,List.nil_append]
  repeat (first|refine Tw ?_|(refine Tm ?_;intro _)|exact Tz)
  refine WC.dF rfl (by omega) ?_
  repeat (first|refine Tw ?_|(refine Tm ?_;intro _)|exact Tz)
  exact WX.ret2 rfl (by exact zt rfl) (by exact zt rfl) [⟨g0,24,B++r⟩] (Lle.c Lle.nil) ⟨g0,c0,r,rfl,rfl⟩
theorem adE (hl:∀ a∈l,a<zb) (hn:l.length≤1099511627776) (hq:q<zb) (hb1:uE q l=true) (h1:1≤m) (hm:m≤7) (hmq:m<q) :
  Fn Tryz.prog 54 [yd p q g h,.slice pz l.length c,.int .i64 (m:Int)] (RdF zc (.slice pz l.length c) l) (aew m ((shL q l m).flatMap zc)):=by
 have hV:=iD p q g h l pz c m hl hn hq hb1 h1 hm hmq;generalize (shL q l m).flatMap zc=B at *;refine Fn.enter Tryz.func54 rfl rfl rfl ?_;intro w hw
 repeat (first|refine Ta ?_|(refine Tm ?_;intro _)|refine WO.does (yQ rfl rfl (by omega)) ?_|refine WO.does (yH rfl rfl (by omega)) ?_|refine Tc ?_|exact Tz)
 refine WO.calls (fs:=[]) (cs:=[]) hV rfl rfl rfl (fun w1 hm=>hw.mod hm.mod) (fun u N ⟨g0,c0,r,e1,e2⟩=>?_);subst e1 e2
 try dsimp only[List.cons_append,List.nil_append]
 repeat (first|refine Tw ?_|(refine Tm ?_;intro _)|exact Tz)
 exact WX.ret2 rfl (by exact zt rfl) (by exact zt rfl) [⟨g0,24,B++r⟩] (Lle.c Lle.nil) ⟨g0,c0,r,rfl,rfl⟩
end
section
variable {w0:World} {gs:List Nat} {K:List (Nat × Value)} {L:List Ent}
theorem sD {x y:Operand} {yt ty:TypeId} {a b:Nat} {r:Bool} (hx:ev K x=some (zf a)) (hy:ev K y=some (zf b)) (ha:a<zb) (hb:b<zb) (hr:decide (a=b)=r) :
  Does Tryz.prog w0 gs K L (.binOp .eql 24 x y yt) ty (.bool r):=by
 subst hr;exact zZ (hx:=hx) (hy:=hy) (ha:=ha) (hb:=hb)
end
section
variable (p q g h:Nat)
theorem acZ (l:List Nat) (pz:Option Addr) (c:Nat) (hl:∀ a∈l,a<zb) (hn:l.length≤1099511627776) (hq:q<zb) :
  Fn Tryz.prog 75 [yd p q g h,.slice pz l.length c] (RdF zc (.slice pz l.length c) l) (Is (.bool (l.all fun x=>zD x x q))):=by
 refine Fn.enter Tryz.func75 rfl rfl rfl ?_;intro w hw
 repeat (first|refine Tw ?_|(refine Tm ?_;intro _)|exact Tz)
 rename_i gG;refine WC.loopI (σ:=Nat) (fun i=>i≤l.length∧∀ j,j<i→∀ x,l[j]?=some x→zD x x q=true) (fun i=>[(2,pt gG),(9,.slice pz l.length c),(10,.int .i64 (l.length:Int)),(11,.int .i64 (i:Int))]) (fun _=>[⟨gG,26,zR p q g h⟩]) (fun i=>l.length - i) 0 (fun i hi=>?_) ⟨Nat.zero_le _,fun j hj=>by omega⟩
 try dsimp only at hi ⊢
 obtain⟨hi,h0⟩:=hi
 by_cases hlt:i<l.length
 ·obtain⟨x,hx⟩ : ∃ x,l[i]?=some x:=⟨_,List.getElem?_eq_getElem hlt⟩;obtain⟨b,o,rfl,_,hs⟩:=hw.get hx;have hadd2:IntKind.i64.wrap ((i:Int)+1)=((i+1:Nat):Int):=zl (by omega) (by omega) (by omega);have hcx:cut (l.flatMap zc) (o+i*4 - o) 4=zc x:=by rw[Nat.add_sub_cancel_left];exact zx zy hx
  have hxb:=hl x (List.mem_of_getElem? hx);have hA:=fM p q g h x x hxb hxb hq;cases hm:zD x x q with
  | true =>
   rw[hm] at hA
   repeat (first|refine Tw ?_|(refine Tm ?_;intro _)|exact Tz)
   refine WC.dT rfl (by omega) ?_
   repeat (first|refine Ta ?_|(refine Tm ?_;intro _)|refine WO.does (za (o':=o+i*4) rfl rfl hlt rfl) ?_|refine WO.does (zk (vs:=zc x) (hs:=hs) (hle:=Nat.le_add_right _ _) (hc:=hcx)) ?_|refine WO.acall (hc:=hA) (k:=?_)|refine WO.does (vk rfl rfl rfl) ?_|refine WO.does (zh rfl rfl hadd2) ?_|refine Tc ?_|exact Tz)
   refine WX.metI (i+1) (hs:=⟨⟨by show i+1≤l.length;omega,fun j hj y hy=>by
    rcases Nat.lt_or_ge j i with h|h
    ·exact h0 j h y hy
    ·have:j=i:=by omega
     subst this;rw[hx] at hy;cases hy;exact hm⟩,by show l.length - (i+1)<l.length - i;omega⟩)
  | false =>
   rw[hm] at hA;rw[te hx hm]
   repeat (first|refine Tw ?_|(refine Tm ?_;intro _)|exact Tz)
   refine WC.dT rfl (by omega) ?_
   repeat (first|refine Ta ?_|(refine Tm ?_;intro _)|refine WO.does (za (o':=o+i*4) rfl rfl hlt rfl) ?_|refine WO.does (zk (vs:=zc x) (hs:=hs) (hle:=Nat.le_add_right _ _) (hc:=hcx)) ?_|refine WO.acall (hc:=hA) (k:=?_)|refine WO.does (vY rfl rfl (by decide)) ?_|refine Tc ?_|exact Tz)
   done
 ·have hi2:i=l.length:=by omega
  rw[qh (P:=fun x=>zD x x q) (by rw[← hi2];exact h0)]
  repeat (first|refine Tw ?_|(refine Tm ?_;intro _)|exact Tz)
  refine WC.dF rfl (by omega) ?_
  repeat (first|refine Tw ?_|(refine Tm ?_;intro _)|exact Tz)
  done
def gl (q key r:Nat) (H:List Nat):Nat:=kY q (zN e8) [be 32 key,be 32 r,H]
theorem c9 (key r gG gK gH:Nat) (H:List Nat) (hq:q<zb) (h0:0<q) (hH:∀ b∈H,b<256) (hl:H.length=32) :
  Fn Tryz.prog 130 ([zf r]++[pt gG,pt gK,pt gH]) (fun w=>Seg w gG 0 (zR p q g h)∧Seg w gK 0 (zc key)∧Seg w gH 0 (byC H)) (Is (zf (gl q key r H))):=by
 have hP:=fun x=>tZ [] x 0 none (by decide);have hbl:∀ x,(be 32 x).length=32:=fun x=>zj _ _;simp only[List.nil_append,hbl] at hP;have hP1:=hP key;have hP2:=hP r;clear hP;have hN:=fun g3 g5 gR=>it q e8 [.slice (some ⟨g3,0,none⟩) 32 32,.slice (some ⟨g5,0,none⟩) 32 32,.slice (some ⟨gH,0,none⟩) 32 32] [be 32 key,be 32 r,H] gR 0 3 hq h0 (by
  intro X hX;simp only[List.mem_cons,List.not_mem_nil,or_false] at hX
  rcases hX with rfl|rfl|rfl
  ·exact tE
  ·exact tE
  ·exact hH) (by
  simp only[zS,vn,yb,List.flatMap_cons,List.flatMap_nil,List.length_append,zj,yG,List.length_nil,hl];decide) (by decide)
 rw[show kY q (zN e8) [be 32 key,be 32 r,H]=gl q key r H from rfl] at hN;generalize gl q key r H=R at *;have hbH:(byC H).length=32:=by rw[zd,hl]
 have hrk:=hbl key;have hrr:=hbl r;clear hbl;refine Fn.enter Tryz.func130 rfl rfl rfl ?_;intro w hw;obtain⟨wG,wK,wH⟩:=hw
 repeat (first|refine Tw ?_|(refine Tm ?_;intro _)|exact Tz)
 refine WC.adrawF [11] 13 (k:=?_);refine DQ.auto (k:=?_);refine DQ.does (fun s _=>zk (hs:=wG) (hle:=Nat.zero_le _) (vs:=zc q)) Dp.const ?_;refine DQ.does (fun s _=>zk (hs:=wK) (hle:=Nat.le_refl _) (vs:=zc key)) Dp.const ?_;refine DQ.acallS (hc:=hP1) (hR:=fun _=>Rd.nil) (k:=?_);refine DQ.auto (k:=?_);refine DQ.acallS (hc:=hP2) (hR:=fun _=>Rd.nil) (k:=?_);refine DQ.does (v:=fun _=>.slice (some ⟨gH,0,none⟩) 32 32) (fun s _=>yx rfl) Dp.const ?_;refine DQ.makes (vf:=fun _ g=>.slice (some ⟨g,0,none⟩) 3 3) (t:=75) (cs:=fun s=>[.slice (some ⟨s 3 0,0,none⟩) 32 32,.slice (some ⟨s 5 0,0,none⟩) 32 32,.slice (some ⟨gH,0,none⟩) 32 32]) (fun s _=>ze rfl (by decide) rfl) Dp.const (by intro s s' h;dsimp only;rw[h,h]<;>decide +kernel) ?_
 refine DQ.callE (v:=fun _=>.tuple #[zf R,.int .i64 0]) (fun s=>[⟨s 7 0,75,[.slice (some ⟨s 3 0,0,none⟩) 32 32,.slice (some ⟨s 5 0,0,none⟩) 32 32,.slice (some ⟨gH,0,none⟩) 32 32]⟩,⟨s 5 0,5,byC (be 32 r)⟩,⟨s 3 0,5,byC (be 32 key)⟩])
  (fun s=>.cons 7 (.head _) (by decide +kernel) (.cons 5 (by repeat (first|exact .head _|apply List.Mem.tail)) (by decide +kernel) (.cons 3 (by repeat (first|exact .head _|apply List.Mem.tail)) (by decide +kernel) .nil))) (fun s _=>hN (s 3 0) (s 5 0) (s 7 0)) (fun s=>rfl)
  (fun s hC w hm=>⟨Hs.seg Hs.here hm,zQ.cons (by have:=RdP.own0 (g:=s 3 0) (c:=32) (X:=be 32 key) (t:=5) hm (Hs.there (Hs.there Hs.here)) (by omega) (by decide);rw[hrk] at this;exact this) (zQ.cons (by have:=RdP.own0 (g:=s 5 0) (c:=32) (X:=be 32 r) (t:=5) hm (Hs.there Hs.here) (by omega) (by decide);rw[hrr] at this;exact this)
   (zQ.cons ⟨some ⟨gH,0,none⟩,32,by rw[hl],by omega,by decide,.inr ⟨gH,0,rfl,by
    have h1:(byC H)[0]?=some (.int .u8 ((H[0]'(by omega):Nat):Int)):=nW (by omega);exact kI ((wH.mod hm.mod (by simp)) 0 _ h1),wH.mod hm.mod (by simp)⟩⟩ zQ.nil))⟩) Dp.const ?_
 repeat (first|refine Da ?_|refine Df ?_)
 refine DQ.anil (k:=?_);intro sx _
 repeat (first|refine Tw ?_|(refine Tm ?_;intro _)|exact Tz)
 done
end
section
variable (p q g h:Nat)
theorem aci (key:Nat) (H:List Nat) (hl:H.length=32) :
  Fn Tryz.prog 76 [yd p q g h,zf key,.agg (byC H).toArray] Tr
   (Ex (fun x=>.func (.func 130) #[] #[pt (x 0),pt (x 1),pt (x 2)]) (fun x=>[⟨x 2,45,byC H⟩,⟨x 1,24,zc key⟩,⟨x 0,26,zR p q g h⟩]) (fun _=>True)):=by
 have hbH:(byC H).length=32:=by rw[zd,hl]
 refine Fn.enter Tryz.func76 rfl rfl rfl ?_;intro w hw
 repeat (first|refine Ta ?_|(refine Tm ?_;intro _)|refine WO.does (zU rfl rfl) ?_|refine Tc ?_|exact Tz)
 rename_i g3 g4 g5;exact WX.ret1 rfl (by exact zt rfl) [⟨g5,45,byC H⟩,⟨g4,24,zc key⟩,⟨g3,26,zR p q g h⟩] (by repeat (first|exact Lle.nil|refine Lle.c ?_)) ⟨fun i=>if i=0 then g3 else if i=1 then g4 else g5,rfl,rfl,trivial⟩
end
section
variable (p q g h:Nat)
theorem rM (a:Nat) (ha:a<zb) (hq:q<zb):Fn Tryz.prog 90 [yd p q g h,zf a] Tr (Is (.bool (zD a a q))):=by
 have hA:=jD p q g h a a ha ha hq;rw[← adS (zD a a q)];simp only[rE] at hA;generalize okV (zD a a q) ((a+a)%q)=y at *;generalize okE (zD a a q)=e at *;refine Fn.enter Tryz.func90 rfl rfl rfl ?_;intro w hw
 repeat (first|refine Ta ?_|(refine Tm ?_;intro _)|refine WO.acall (hc:=hA) (k:=?_)|refine Tc ?_|exact Tz)
 done
theorem dI (a n:Nat) (ha:a<zb) (hn:n<zb) (hp:p<zb):Fn Tryz.prog 55 [yd p q g h,zf a,zf n] Tr (Is (zf (exN p a n))):=by
 have hA:=ln p q g h a n ha hn hp;simp only[rE] at hA;rw[show okV (vo p a) (a ^ n%p)=exN p a n from rfl] at hA;generalize exN p a n=y at *;generalize okE (vo p a)=e at *;refine Fn.enter Tryz.func55 rfl rfl rfl ?_;intro w hw
 repeat (first|refine Ta ?_|(refine Tm ?_;intro _)|refine WO.acall (hc:=hA) (k:=?_)|refine Tc ?_|exact Tz)
 done
theorem aR (f sec:Int) (ns:Value) (l:List Nat) (pz:Option Addr) (c:Nat) (hl:∀ a∈l,a<zb) (hn:l.length≤1099511627776) (hq:q<zb) (hf:0≤f∧0≤sec∧f+sec≤5) :
  Fn Tryz.prog 53 [stV p q g h f sec ns,.slice pz l.length c] (RdF zc (.slice pz l.length c) l) (Is (.bool (decide ((l.length:Int)=f+sec) && uE q l))):=by
 have hadd:IntKind.i64.wrap (f+sec)=f+sec:=i64_in (by omega) (by omega);have hA:=jb p q g h l pz c hl hn hq;generalize uE q l=b at *;refine Fn.enter Tryz.func53 rfl rfl rfl ?_;intro w hw
 by_cases he:(l.length:Int)=f+sec
 ·have d:decide ((l.length:Int)=f+sec)=true:=decide_eq_true he;rw[d,Bool.true_and]
  repeat (first|refine Ta ?_|(refine Tm ?_;intro _)|refine WO.does (zh rfl rfl hadd) ?_|refine WO.does (yf rfl rfl he) ?_|refine WO.acallR (hc:=hA) (hR:=fun w1 hm=>hw.mod hm.mod) (k:=?_)|refine Tc ?_|exact Tz)
 ·have d:decide ((l.length:Int)=f+sec)=false:=decide_eq_false he;rw[d,Bool.false_and]
  repeat (first|refine Ta ?_|(refine Tm ?_;intro _)|refine WO.does (zh rfl rfl hadd) ?_|refine WO.does (yU rfl rfl he) ?_|refine Tc ?_|exact Tz)
theorem bs (key r:Nat) (H:List Nat) (hq:q<zb) (h0:0<q) (hH:∀ b∈H,b<256) (hl:H.length=32) :
  Fn Tryz.prog 92 [yd p q g h,zf key,zf r,.agg (byC H).toArray] Tr (Is (zf (gl q key r H))):=by
 have hP:=fun x=>yS [] x 0 none (by decide);have hbl:∀ x,(be 32 x).length=32:=fun x=>zj _ _;simp only[List.nil_append] at hP;have hP1:=hP key;have hP2:=hP r;clear hP;have hN:=fun g3 c3 g5 c5 gH gR=>mV q e8 [.slice (some ⟨g3,0,none⟩) 32 c3,.slice (some ⟨g5,0,none⟩) 32 c5,.slice (some ⟨gH,0,none⟩) 32 32] [be 32 key,be 32 r,H] gR 0 3 hq h0 (by
  intro X hX;simp only[List.mem_cons,List.not_mem_nil,or_false] at hX
  rcases hX with rfl|rfl|rfl
  ·exact tE
  ·exact tE
  ·exact hH) (by
  simp only[zS,vn,yb,List.flatMap_cons,List.flatMap_nil,List.length_append,zj,yG,List.length_nil,hl];decide) (by simp)
 rw[show kY q (zN e8) [be 32 key,be 32 r,H]=gl q key r H from rfl] at hN;generalize gl q key r H=R at *;have hbH:(byC H).length=32:=by rw[zd,hl]
 have hrk:=hbl key;have hrr:=hbl r;clear hbl;refine Fn.enter Tryz.func92 rfl rfl rfl ?_;intro w hw
 repeat (first|refine Tw ?_|(refine Tm ?_;intro _)|exact Tz)
 rename_i gG gK gR gH gO;refine WC.adrawF [11] 13 (k:=?_)
 iterate 3 (refine DQ.auto (k:=?_))
 refine DQ.acallZ (hc:=hP1) (hR:=fun _=>Rd.nil) (hX:=by rw[hrk];decide) (k:=?_);refine DQ.auto (k:=?_);refine DQ.acallZ (hc:=hP2) (hR:=fun _=>Rd.nil) (hX:=by rw[hrr];decide) (k:=?_);refine DQ.does (v:=fun _=>.slice (some ⟨gH,0,none⟩) 32 32) (fun s _=>yx rfl) Dp.const ?_;rw[hrk,hrr];refine DQ.makes (vf:=fun _ g=>.slice (some ⟨g,0,none⟩) 3 3) (t:=75) (cs:=fun s=>[.slice (some ⟨s 3 0,0,none⟩) 32 (s 3 1),.slice (some ⟨s 5 0,0,none⟩) 32 (s 5 1),.slice (some ⟨gH,0,none⟩) 32 32]) (fun s _=>ze rfl (by decide) rfl) Dp.const (by intro s s' h;dsimp only;rw[h,h]<;>decide +kernel) ?_
 refine DQ.callE (v:=fun _=>.tuple #[zf R,.int .i64 0]) (fun s=>[⟨s 7 0,75,[.slice (some ⟨s 3 0,0,none⟩) 32 (s 3 1),.slice (some ⟨s 5 0,0,none⟩) 32 (s 5 1),.slice (some ⟨gH,0,none⟩) 32 32]⟩,⟨s 5 0,5,byC (be 32 r++rz (s 5))⟩,⟨s 3 0,5,byC (be 32 key++rz (s 3))⟩])
  (fun s=>.cons 7 (.head _) (by decide +kernel) (.cons 5 (by repeat (first|exact .head _|apply List.Mem.tail)) (by decide +kernel) (.cons 3 (by repeat (first|exact .head _|apply List.Mem.tail)) (by decide +kernel) .nil))) (fun s _=>hN (s 3 0) (s 3 1) (s 5 0) (s 5 1) gH (s 7 0)) (fun s=>rfl)
  (fun s hC w hm=>⟨Hs.seg Hs.here hm,zQ.cons (by
    have hh:=RdP.own (g:=s 3 0) (c:=s 3 1) (X:=be 32 key) (r:=byC (rz (s 3))) (t:=5) hm (by rw[← zp];exact Hs.there (Hs.there Hs.here)) (by have h1:(be 32 key++rz (s 3)).length=s 3 1:=hC.1.2.1;rw[List.length_append] at h1;omega) hC.1.2.2;rw[hrk] at hh;exact hh) (zQ.cons (by
    have hh:=RdP.own (g:=s 5 0) (c:=s 5 1) (X:=be 32 r) (r:=byC (rz (s 5))) (t:=5) hm (by rw[← zp];exact Hs.there Hs.here) (by have h1:(be 32 r++rz (s 5)).length=s 5 1:=hC.2.1;rw[List.length_append] at h1;omega) hC.2.2;rw[hrr] at hh;exact hh)
   (zQ.cons (by have hh:=RdP.own0 (g:=gH) (c:=32) (X:=H) (t:=45) hm Hs.a (by omega) (by decide);rw[hl] at hh;exact hh) zQ.nil))⟩) Dp.const ?_
 repeat (first|refine Da ?_|refine Df ?_)
 refine DQ.anil (k:=?_);intro sx _
 repeat (first|refine Tw ?_|(refine Tm ?_;intro _)|exact Tz)
 done
end
theorem abC {a b p:Nat} (h1:1<p) (ha:a<p) (hb:b<p):zD a b p=true:=by simp[zD,h1,ha,hb]
section
variable (p q g h:Nat)
theorem iQ (hp:p<zb) (h1:1<p) (xs:List (PwT p)) (pa pn:Option Addr) (cA cN:Nat) (hn:xs.length≤100) :
  Fn Tryz.prog 83 [yd p q g h,.slice pa xs.length cA,.slice pn xs.length cN]
   (fun w=>RdF zc (.slice pa xs.length cA) (xs.map fun x=>x.1.1) w∧RdF zc (.slice pn xs.length cN) (xs.map fun x=>x.1.2) w) (Is (.tuple #[zf (vH p xs),.int .i64 0])):=by
 have hC:=ny p 1 hp yA;rw[uL h1] at hC;refine Fn.enter Tryz.func83 rfl rfl rfl ?_;intro w hw;obtain⟨hwA,hwN⟩:=hw
 repeat (first|refine Tw ?_|(refine Tm ?_;intro _)|exact Tz)
 refine WC.adraw 12 (k:=?_)
 repeat (first|refine Da ?_|refine DQ.acall (hc:=kO) (k:=?_)|refine DQ.acall (hc:=hC) (k:=?_)|refine Dc ?_)
 refine DQ.anil (k:=?_);intro sx _
 repeat (first|refine Tw ?_|(refine Tm ?_;intro _)|exact Tz)
 refine WC.condF (show some (Value.bool (decide ((xs.length:Int)≠(xs.length:Int))))=some (Value.bool false) by simp) ?_
 repeat (first|refine Ta ?_|(refine Tm ?_;intro _)|refine WO.acall (hc:=kO) (k:=?_)|refine Tc ?_|exact Tz)
 rename_i g3 g6 _ g8;refine WC.loopI (σ:=Nat) (fun i=>i≤xs.length) (fun i=>[(1,.slice pa xs.length cA),(2,.slice pn xs.length cN),(3,pt g3),(6,pt g6),(8,pt g8),(9,.int .i64 (i:Int))]) (fun i=>[⟨g8,24,zc (vH p (xs.take i))⟩,⟨g6,24,zc 0⟩,⟨g3,26,zR p q g h⟩]) (fun i=>xs.length - i) 0 (fun i hi=>?_) (Nat.zero_le _)
 try dsimp only at hi ⊢
 by_cases hlt:i<xs.length
 ·obtain⟨x,hx⟩ : ∃ y,xs[i]?=some y:=⟨_,List.getElem?_eq_getElem hlt⟩;have hxs:xs.take i++[x]=xs.take (i+1):=by rw[List.take_add_one,hx];rfl
  have hpr:=rC p (xs.take i) x;rw[hxs] at hpr;have hpl:=jL h1 (xs.take i);generalize hP2:vH p (xs.take (i+1))=P2 at *;generalize vH p (xs.take i)=P1 at *;obtain⟨⟨xa,xn⟩,hxa,hxn,hxm⟩:=x;dsimp only at hxa hxn hxm hpr;obtain⟨bA,oA,e,_,hsA⟩:=hwA.get (i:=i) (x:=xa) (by rw[List.getElem?_map,hx];rfl);subst e;obtain⟨bN,oN,e,_,hsN⟩:=hwN.get (i:=i) (x:=xn) (by rw[List.getElem?_map,hx];rfl);subst e;have hcA:cut ((xs.map fun x=>x.1.1).flatMap zc) (oA+i*4 - oA) 4=zc xa:=by rw[Nat.add_sub_cancel_left];exact vd (f:=zc) (k:=4) (fun _=>rfl) (by rw[List.getElem?_map,hx];rfl)
  have hcN:cut ((xs.map fun x=>x.1.2).flatMap zc) (oN+i*4 - oN) 4=zc xn:=by rw[Nat.add_sub_cancel_left];exact vd (f:=zc) (k:=4) (fun _=>rfl) (by rw[List.getElem?_map,hx];rfl)
  have hadd2:IntKind.i64.wrap ((i:Int)+1)=((i+1:Nat):Int):=zl (by omega) (by omega) (by omega);have hM:=qs p q g h xa hxa hp;rw[hxm] at hM;have hE:=abp xa xn p hxa hxn hp;rw[sr hxm] at hE;have hrl:xa ^ xn%p<p:=Nat.mod_lt _ (by omega);have hMu:=fO P1 (xa ^ xn%p) p (Nat.lt_trans hpl hp) (Nat.lt_trans hrl hp) hp;rw[abC h1 hpl hrl,← hpr] at hMu;clear hpr;generalize xa ^ xn%p=R at *;simp only[rE,okV,okE,if_true,if_pos] at hE hMu
  repeat (first|refine Tw ?_|(refine Tm ?_;intro _)|exact Tz)
  refine WC.dT rfl (by omega) ?_
  repeat (first|refine Tw ?_|(refine Tm ?_;intro _)|exact Tz)
  refine WC.adraw 7 (k:=?_)
  repeat (first|refine Da ?_|refine DQ.acall (hc:=hM) (k:=?_)|refine DQ.does (fun s _=>za (o':=oA+i*4) rfl rfl hlt rfl) Dp.const ?_|refine DQ.does (fun s _=>zk (vs:=zc xa) (hs:=hsA) (hle:=Nat.le_add_right _ _) (hc:=hcA)) Dp.const ?_|refine Dc ?_)
  refine DQ.anil (k:=?_);intro sx _
  repeat (first|refine Tw ?_|(refine Tm ?_;intro _)|exact Tz)
  refine WC.adrawF [13] 15 (k:=?_)
  repeat (first|refine Da ?_|refine DQ.acall (hc:=hE) (k:=?_)|refine DQ.does (fun s _=>za (o':=oA+i*4) rfl rfl hlt rfl) Dp.const ?_|refine DQ.does (fun s _=>zk (vs:=zc xa) (hs:=hsA) (hle:=Nat.le_add_right _ _) (hc:=hcA)) Dp.const ?_|refine DQ.does (fun s _=>za (o':=oN+i*4) rfl rfl hlt rfl) Dp.const ?_|refine DQ.does (fun s _=>zk (vs:=zc xn) (hs:=hsN) (hle:=Nat.le_add_right _ _) (hc:=hcN)) Dp.const ?_|refine Df ?_)
  refine DQ.anil (k:=?_);intro sx _
  repeat (first|refine Ta ?_|(refine Tm ?_;intro _)|refine WO.acall (hc:=hMu) (k:=?_)|refine WO.does (zh rfl rfl hadd2) ?_|refine Tc ?_|exact Tz)
  subst hP2;exact WX.metI (i+1) (hs:=⟨by show i+1≤xs.length;omega,by show xs.length - (i+1)<xs.length - i;omega⟩)
 ·have hi2:i=xs.length:=by omega
  subst hi2;rw[List.take_length];generalize vH p xs=P at *
  repeat (first|refine Tw ?_|(refine Tm ?_;intro _)|exact Tz)
  refine WC.dF rfl (by omega) ?_
  repeat (first|refine Tw ?_|(refine Tm ?_;intro _)|exact Tz)
end
def pwL {p:Nat}:(l:List (Nat × Nat))→(∀ x∈l,x.1<zb∧x.2<zb∧vo p x.1=true)→List (PwT p)
 | [],_=>[]
 | x::r,h=>⟨x,h x (List.mem_cons_self ..)⟩::pwL r (fun y hy=>h y (List.mem_cons_of_mem _ hy))
theorem pk {p:Nat}:∀ (l:List (Nat × Nat)) (h:∀ x∈l,x.1<zb∧x.2<zb∧vo p x.1=true),(pwL l h).map (fun x=>x.1)=l
 | [],_=>rfl
 | x::r,h=>by rw[pwL,List.map_cons,pk r]
def prD (p:Nat) (zs ws:List Nat):Nat:=(zs.zip ws).foldl (fun r x=>r*(x.1 ^ x.2%p)%p) 1
theorem mQ {p:Nat} (zs ws:List Nat) (h):vH p (pwL (zs.zip ws) h)=prD p zs ws:=by
 unfold vH prD;rw[← List.foldl_map (f:=fun x:PwT p=>x.1) (g:=fun r x=>r*(x.1 ^ x.2%p)%p),pk]
theorem im {p:Nat} {zs ws:List Nat} (h1:1<p):prD p zs ws<p:=by
 unfold prD
 rcases List.eq_nil_or_concat (zs.zip ws) with e|⟨l,x,e⟩
 ·rw[e];exact h1
 ·rw[e,List.concat_eq_append,List.foldl_append];exact Nat.mod_lt _ (by omega)
theorem aaU {p:Nat} (l:List (Nat × Nat)) (h):(pwL (p:=p) l h).length=l.length:=by
 have:=congrArg List.length (pk (p:=p) l h);rwa [List.length_map] at this
structure cF (p:Nat) (zs:List Nat):Prop where
 lt:∀ z∈zs,z<zb
 may:∀ z∈zs,vo p z=true
theorem cF.zip {p:Nat} {zs ws:List Nat} (h:cF p zs) (hw:∀ v∈ws,v<zb):∀ x∈zs.zip ws,x.1<zb∧x.2<zb∧vo p x.1=true:=fun x hx=>by
 obtain⟨a,b⟩:=x;have:=List.of_mem_zip hx;exact⟨h.lt _ this.1,hw _ this.2,h.may _ this.1⟩
section
variable (p q g h:Nat)
theorem pO (hp:p<zb) (h1:1<p) (zs ws:List Nat) (hz:cF p zs) (hw:∀ v∈ws,v<zb) (hl:ws.length=zs.length) (hne:zs≠[]) (pa pn:Option Addr) (cA cN:Nat) (hn:zs.length≤100) :
  Fn Tryz.prog 70 [yd p q g h,.slice pa zs.length cA,.slice pn zs.length cN]
   (fun w=>RdF zc (.slice pa zs.length cA) zs w∧RdF zc (.slice pn zs.length cN) ws w) (Is (.tuple #[zf (prD p zs ws),.int .i64 0])):=by
 intro w ⟨hA,hN⟩;have hwne:ws≠[]:=fun e=>hne (List.length_eq_zero_iff.1 (by rw[← hl,e];rfl));obtain⟨a0,ha0⟩ : ∃ y,zs[0]?=some y:=⟨_,List.getElem?_eq_getElem (List.length_pos_iff.2 hne)⟩;obtain⟨b0,hb0⟩ : ∃ y,ws[0]?=some y:=⟨_,List.getElem?_eq_getElem (List.length_pos_iff.2 hwne)⟩;obtain⟨bA,oA,e1,_,hsA⟩:=hA.get ha0;obtain⟨bN,oN,e2,_,hsN⟩:=hN.get hb0;subst e1 e2;have hxl:(pwL (p:=p) (zs.zip ws) (hz.zip hw)).length=zs.length:=by rw[aaU,List.length_zip];omega
 have hP:=lp p q g h hp h1 (pwL (zs.zip ws) (hz.zip hw)) bA oA bN oN cA cN (by omega);rw[mQ,hxl] at hP;have hm:=pk (p:=p) (zs.zip ws) (hz.zip hw);have f1:(pwL (p:=p) (zs.zip ws) (hz.zip hw)).map (fun x=>x.1.1)=zs:=by
  have:=congrArg (List.map Prod.fst) hm;rw[List.map_map,List.map_fst_zip (by omega)] at this;exact this
 have f2:(pwL (p:=p) (zs.zip ws) (hz.zip hw)).map (fun x=>x.1.2)=ws:=by
  have:=congrArg (List.map Prod.snd) hm;rw[List.map_map,List.map_snd_zip (by omega)] at this;exact this
 refine hP w ⟨RdF.lt (k:=3) (fun _=>rfl) hA hne,RdF.lt (k:=3) (fun _=>rfl) hN hwne,fun k x hx=>?_,fun k x hx=>?_⟩
 ·have:zs[k]?=some x.1.1:=by
   have e:=congrArg (fun l=>l[k]?) f1;simp only[List.getElem?_map,hx] at e;exact e.symm
  have hc:=vd (f:=zc) (k:=4) (fun _=>rfl) this;exact hsA.sub hc
 ·have:ws[k]?=some x.1.2:=by
   have e:=congrArg (fun l=>l[k]?) f2;simp only[List.getElem?_map,hx] at e;exact e.symm
  have hc:=vd (f:=zc) (k:=4) (fun _=>rfl) this;exact hsN.sub hc
theorem ko (hp:p<zb) (h1:1<p) (zs ws:List Nat) (hz:cF p zs) (hw:∀ v∈ws,v<zb) (hl:ws.length=zs.length) (pa pn:Option Addr) (cA cN:Nat) (hn:zs.length≤100) :
  Fn Tryz.prog 83 [yd p q g h,.slice pa zs.length cA,.slice pn zs.length cN]
   (fun w=>RdF zc (.slice pa zs.length cA) zs w∧RdF zc (.slice pn zs.length cN) ws w) (Is (.tuple #[zf (prD p zs ws),.int .i64 0])):=by
 have hxl:(pwL (p:=p) (zs.zip ws) (hz.zip hw)).length=zs.length:=by rw[aaU,List.length_zip];omega
 have hP:=iQ p q g h hp h1 (pwL (zs.zip ws) (hz.zip hw)) pa pn cA cN (by omega);have hm:=pk (p:=p) (zs.zip ws) (hz.zip hw);have f1:(pwL (p:=p) (zs.zip ws) (hz.zip hw)).map (fun x=>x.1.1)=zs:=by
  have:=congrArg (List.map Prod.fst) hm;rw[List.map_map,List.map_fst_zip (by omega)] at this;exact this
 have f2:(pwL (p:=p) (zs.zip ws) (hz.zip hw)).map (fun x=>x.1.2)=ws:=by
  have:=congrArg (List.map Prod.snd) hm;rw[List.map_map,List.map_snd_zip (by omega)] at this;exact this
 rw[mQ,hxl,f1,f2] at hP;exact hP
end
end Sx
end
section
open Go Go.RowKit Go.BigFrame
namespace Sx
def dOf (q i k:Nat):Nat:=ofZ q ((i:Int) - (k:Int))
def oth (n i:Nat):List Nat:=((List.range n).map (· + 1)).filter (fun k=>decide (k≠i))
def dwF (q i w k:Nat):Nat:=w*uf (dOf q i k) q%q
def dwG (q i:Nat) (l:List Nat):Bool:=l.all fun k=>decide (Nat.gcd (dOf q i k) q=1)
def dw (q n:Nat) (p:List Nat) (i:Nat):Nat:=(oth n i).foldl (dwF q i) (y9 p (ofZ q (i:Int))%q)
def dwL (q n:Nat) (p:List Nat):List Nat:=(List.range n).map fun j=>dw q n p (j+1)
def nO (q n:Nat):Bool:=(List.range n).all fun j=>dwG q (j+1) (oth n (j+1))
def pkN (q k:Nat):List Nat:=List.replicate k 0++[ofZ q 1]
def duB (p q n c:Nat) (V:List Nat):Bool:=decide (n≤c) || (nO q n && (List.range (n - c)).all fun k=>decide (prD p V (dwL q n (pkN q k))=ofZ q 1))
theorem oI {q:Nat} (z:Int) (h:0<q):ofZ q z<q:=by
 unfold ofZ;split
 ·omega
 ·have h1:=Int.emod_lt_of_pos z (by omega:(0:Int)<(q:Int));have h2:=Int.emod_nonneg z (by omega:(q:Int)≠0);omega
theorem aaB {q i k:Nat} (h:0<q):dOf q i k<q:=oI _ h
theorem abg {q m:Nat} (h:2≤q) (h0:0<m) (hm:m<q):ofZ q (-(m:Int))=q - m:=by
 unfold ofZ;rw[if_neg (by omega)];have:(-(m:Int))%(q:Int)=((q - m:Nat):Int):=by
  rw[← Int.add_emod_right,show -(m:Int)+(q:Int)=((q - m:Nat):Int) by omega];exact Int.emod_eq_of_lt (by omega) (by omega)
 rw[this];omega
theorem jQ {q i k:Nat} (h:2≤q) (hk:i<k) (hi:k - i<q):dOf q i k=q - (k - i):=by
 unfold dOf;rw[show (i:Int) - (k:Int) = -((k - i:Nat):Int) by omega];exact abg h (by omega) hi
theorem kM {n i k:Nat}:k∈oth n i↔1≤k∧k≤n∧k≠i:=by
 unfold oth;simp only[List.mem_filter,List.mem_map,List.mem_range,decide_eq_true_eq];constructor
 ·rintro ⟨⟨a,h,rfl⟩,h2⟩;exact⟨by omega,by omega,h2⟩
 ·rintro ⟨h1,h2,h3⟩;exact⟨⟨k - 1,by omega,by omega⟩,h3⟩
def rZ (m i:Nat):List Nat:=((List.range m).map (· + 1)).filter (fun k=>decide (k≠i))
theorem nx {n i:Nat}:rZ n i=oth n i:=rfl
theorem uD {m i:Nat}:rZ (m+1) i=rZ m i++(if m+1=i then [] else [m+1]):=by
 unfold rZ;rw[List.range_succ,List.map_append,List.filter_append];congr 1
 by_cases h:m+1=i<;>simp[h]
theorem dK {i m n:Nat} (h:m≤n):(rZ m i).length≤(rZ n i).length:=by
 induction h with
 | refl=>exact Nat.le_refl _
 | step _ ih=>rw[uD,List.length_append];omega
theorem abw {i m n:Nat} (h:m<n) (hi:m+1≠i):(rZ m i).length<(oth n i).length:=by
 have:=dK (i:=i) (show m+1≤n from h);rw[uD,if_neg hi,List.length_append] at this;rw[← nx];exact this
theorem aef {q n i:Nat} {p:List Nat} (h:0<q):dw q n p i<q:=by
 unfold dw;have key:∀ (l:List Nat) (w:Nat),w<q→l.foldl (dwF q i) w<q:=by
  intro l
  induction l with
  | nil=>exact fun w hw=>hw
  | cons a r ih=>exact fun w _=>ih _ (Nat.mod_lt _ h)
 exact key _ _ (Nat.mod_lt _ h)
theorem dX {q i w:Nat} (l:List Nat) (h:w<q):l.foldl (dwF q i) w<q:=by
 induction l generalizing w with
 | nil=>exact h
 | cons a r ih=>exact ih (Nat.mod_lt _ (by omega))
theorem mB {q i w k:Nat} {l:List Nat}:(l++[k]).foldl (dwF q i) w=l.foldl (dwF q i) w*uf (dOf q i k) q%q:=by rw[List.foldl_append];rfl
theorem mf {q n:Nat} {p:List Nat}:(dwL q n p).length=n:=by simp[dwL]
theorem aat {q n:Nat} {p:List Nat} (h:0<q):∀ v∈dwL q n p,v<q:=fun v hv=>by
 unfold dwL at hv;obtain⟨j,_,rfl⟩:=List.mem_map.1 hv;exact aef h
theorem qS {q k:Nat}:(pkN q k).length=k+1:=by simp[pkN]
theorem dE {q k:Nat} (h:0<q):∀ a∈pkN q k,a<q:=fun a ha=>by
 unfold pkN at ha;rw[List.mem_append] at ha
 rcases ha with ha|ha
 ·rw[List.eq_of_mem_replicate ha];exact h
 ·rw[List.mem_singleton] at ha;subst ha;exact oI _ h
end Sx
end
section
open Go Go.RowKit Go.BigFrame
namespace Sx
attribute [local irreducible] DQ DQS WC WO WX wd
section
variable (p q g h:Nat)
theorem acV (m:Nat) (hm:m<1000) (h0m:0<m) (hmq:m<q) (hq:q<zb):Fn Tryz.prog 81 [yd p q g h,.int .i64 (-(m:Int))] Tr (Is (zf (q - m))):=by
 have hO:=aaQ m (by omega);have hcv:IntKind.u64.wrap (-(m:Int))=((18446744073709551616 - m:Nat):Int):=by
  simp[IntKind.wrap,IntKind.signed,IntKind.bits];omega
 have hng:IntKind.u64.wrap (0 - ((18446744073709551616 - m:Nat):Int))=(m:Int):=by
  simp[IntKind.wrap,IntKind.signed,IntKind.bits];omega
 have hD:=aZ m q (vE (by omega)) hq (by omega);rw[Nat.mod_eq_of_lt hmq] at hD;have hS:=fU q m hq (vE (by omega));rw[show (q+zb - m)%zb=q - m by rw[show q+zb - m=(q - m)+zb by omega,Nat.add_mod_right];exact Nat.mod_eq_of_lt (by omega)] at hS;generalize m / q=D at *;have hmb:m<zb:=vE (by omega);have d0:decide (q=0)=false:=decide_eq_false (by omega);have d1:decide (m=0)=false:=decide_eq_false (by omega);generalize q - m=R at *;generalize bw q m 0=bb at *;refine Fn.enter Tryz.func81 rfl rfl rfl ?_;intro w hw
 repeat (first|refine Tw ?_|(refine Tm ?_;intro _)|exact Tz)
 rw[d0]
 repeat (first|refine Ta ?_|(refine Tm ?_;intro _)|refine WO.does (ss rfl rfl (by omega)) ?_|refine Tc ?_|exact Tz)
 refine WC.adrawF [9,10] 13 (k:=?_)
 repeat (first|refine Da ?_|refine DQ.acall (hc:=hO) (k:=?_)|refine DQ.does (fun s _=>zu rfl hcv) Dp.const ?_|refine DQ.does (fun s _=>m8 rfl hng) Dp.const ?_|refine DQ.acall (hc:=hD) (k:=?_)|refine Df ?_)
 refine DQ.anil (k:=?_);intro sx _
 repeat (first|refine Ta ?_|(refine Tm ?_;intro _)|refine WO.does (sD rfl rfl hmb zq d1) ?_|refine WO.acall (hc:=hS) (k:=?_)|refine Tc ?_|exact Tz)
 done
end
section
variable {w0:World} {gs:List Nat} {K:List (Nat × Value)} {L:List Ent}
theorem gU {x y:Operand} {yt ty:TypeId} {p q g h:Nat} (hx:ev K x=some (.agg (zR p q g h).toArray)) (hy:ev K y=some (.agg (zR p q g h).toArray)):Does Tryz.prog w0 gs K L (.binOp .eql 26 x y yt) ty (.bool true) :=
 nQ hx hy (fun w=>gq p q g h w) (fun w=>lZ _ _ _ _ _ w)
theorem bp {x y:Operand} {yt ty:TypeId} {a b:Nat} (hx:ev K x=some (.agg (yO a b).toArray)) (hy:ev K y=some (.agg (yO a b).toArray)):Does Tryz.prog w0 gs K L (.binOp .eql 33 x y yt) ty (.bool true) :=
 nQ hx hy (fun w=>cS a b w) (fun w=>lh _ _ _ _ _ w)
theorem jp (op:BinOp) (x y:Operand) (a b:Bool) (w:World):(eqGuard op 4 x y (.bool a) (.bool b)).run Tryz.prog w=.ok () w:=by cases op<;>kernel_rfl
end
section
variable (p q g h:Nat) (f sec:Int) (pt:Option Addr) (c:Nat) (N:List (Nat × Nat))
theorem nn (hNl:N.length≤100) :
  Fn Tryz.prog 5 [stV p q g h f sec (.slice pt N.length c)] (RdF vm (.slice pt N.length c) N)
   (Ex (fun s=>stV p q g h f sec (.slice (some ⟨s 0,0,none⟩) N.length (N.length+1))) (fun s=>[⟨s 0,70,N.flatMap vm++yO 77 0⟩]) (fun _=>True)):=by
 have hT:=iJ N pt c hNl;refine Fn.enter Tryz.func5 rfl rfl rfl ?_;intro w hw
 repeat (first|refine Tw ?_|(refine Tm ?_;intro _)|exact Tz)
 refine WC.adraw 10 (k:=?_)
 repeat (first|refine Da ?_|refine DQ.acallC (hc:=hT) (hR:=fun w hm=>hw.mod hm.mod) (k:=?_)|refine Dc ?_)
 refine DQ.anil (k:=?_);intro sx _;generalize sx 8 0=gN
 repeat (first|refine Tw ?_|(refine Tm ?_;intro _)|exact Tz)
 exact WX.ret1 rfl uh [⟨gN,70,N.flatMap vm++yO 77 0⟩] (Lle.c Lle.nil) ⟨fun _=>gN,rfl,rfl,trivial⟩
theorem nH (bt:Nat) (hNl:N.length≤100) :
  Fn Tryz.prog 14 [stV p q g h f sec (.slice (some ⟨bt,0,none⟩) N.length (N.length+1)),stV p q g h f sec (.slice pt N.length c)]
   (fun w=>Seg w bt 0 (N.flatMap vm++yO 77 0)∧RdF vm (.slice pt N.length c) N w) (Is (.bool true)):=by
 have hL:=fg N pt c bt hNl;refine Fn.enter Tryz.func14 rfl rfl rfl ?_;intro w hw
 repeat (first|refine Ta ?_|(refine Tm ?_;intro _)|refine WO.does (gU (p:=p) (q:=q) (g:=g) (h:=h) rfl rfl) ?_|refine WO.does (yf rfl rfl rfl) ?_|refine WO.acallR (hc:=hL) (hR:=fun w hm=>⟨hw.1.mod hm.mod (by simp),hw.2.mod hm.mod⟩) (k:=?_)|refine Tc ?_|exact Tz)
 done
end
abbrev gdV (ep d:Nat) (ps:Value) (x:Nat):Value:=.agg #[.int .u64 (ep:Int),.int .u8 (d:Int),ps,.int .u64 ((wd 0 x:Nat):Int),.int .u64 ((wd 1 x:Nat):Int),.int .u64 ((wd 2 x:Nat):Int),.int .u64 ((wd 3 x:Nat):Int)]
section
variable (p q g h:Nat) (f sec:Int) (ep d x:Nat) (p0 p1:Option Addr) (n0 n1 c0 c1:Nat)
theorem aaf (h0:(100:Int)<(n0:Int)):Fn Tryz.prog 4 [stV p q g h f sec (.slice p0 n0 c0),gdV ep d (.slice p1 n1 c1) x] Tr (Is (.bool true)):=by
 refine Fn.enter Tryz.func4 rfl rfl rfl ?_;intro w hw
 repeat (first|refine Ta ?_|(refine Tm ?_;intro _)|refine WO.does (qB rfl rfl h0) ?_|refine Tc ?_|exact Tz)
 done
theorem cO (h0:¬ (100:Int)<(n0:Int)) (h1:(100:Int)<(n1:Int)):Fn Tryz.prog 4 [stV p q g h f sec (.slice p0 n0 c0),gdV ep d (.slice p1 n1 c1) x] Tr (Is (.bool true)):=by
 refine Fn.enter Tryz.func4 rfl rfl rfl ?_;intro w hw
 repeat (first|refine Ta ?_|(refine Tm ?_;intro _)|refine WO.does (qB rfl rfl h1) ?_|refine WO.does (yH rfl rfl h0) ?_|refine Tc ?_|exact Tz)
 done
theorem ig (h0:¬ (100:Int)<(n0:Int)) (h1:¬ (100:Int)<(n1:Int)):Fn Tryz.prog 4 [stV p q g h f sec (.slice p0 n0 c0),gdV ep d (.slice p1 n1 c1) x] Tr (Is (.bool false)):=by
 refine Fn.enter Tryz.func4 rfl rfl rfl ?_;intro w hw
 repeat (first|refine Ta ?_|(refine Tm ?_;intro _)|refine WO.does (yH rfl rfl h1) ?_|refine WO.does (yH rfl rfl h0) ?_|refine Tc ?_|exact Tz)
 done
end
section
variable (ep d:Nat) (sC sS:Nat) (pV pY pP:Option Addr) (cV cY cP:Nat) (V Y:List Nat) (Pr:List (Nat × Nat))
theorem np (hV:V.length≤100) (hY:Y.length≤100) (hP:Pr.length≤100) :
  Fn Tryz.prog 6 [dlV ep d (.slice pV V.length cV) (.slice pY Y.length cY) (.slice pP Pr.length cP) sC sS] (fun w=>RdF zc (.slice pV V.length cV) V w∧RdF zc (.slice pY Y.length cY) Y w∧RdF pfC (.slice pP Pr.length cP) Pr w)
   (Ex (fun s=>dlV ep d (.slice (some ⟨s 0,0,none⟩) V.length (V.length+1)) (.slice (some ⟨s 1,0,none⟩) Y.length (Y.length+1)) (.slice (some ⟨s 2,0,none⟩) Pr.length (Pr.length+1)) sC sS)
    (fun s=>[⟨s 2,67,Pr.flatMap pfC++yO 77 0⟩,⟨s 1,24,Y.flatMap zc++zc 77⟩,⟨s 0,24,V.flatMap zc++zc 77⟩]) (fun _=>True)):=by
 have h1:=rq V pV cV hV;have h2:=rq Y pY cY hY;have h3:=mT Pr pP cP hP;refine Fn.enter Tryz.func6 rfl rfl rfl ?_;intro w hw;obtain⟨w1,w2,w3⟩:=hw
 repeat (first|refine Tw ?_|(refine Tm ?_;intro _)|exact Tz)
 refine WC.adraw 16 (k:=?_)
 iterate 6 (refine DQ.auto (k:=?_))
 refine DQ.acallC (hc:=h1) (hR:=fun w hm=>w1.mod hm.mod) (k:=?_)
 iterate 2 (refine DQ.auto (k:=?_))
 refine DQ.acallC (hc:=h2) (hR:=fun w hm=>w2.mod hm.mod) (k:=?_)
 iterate 2 (refine DQ.auto (k:=?_))
 refine DQ.acallC (hc:=h3) (hR:=fun w hm=>w3.mod hm.mod) (k:=?_)
 iterate 2 (refine DQ.auto (k:=?_))
 refine DQ.auto (k:=?_);refine DQ.anil (k:=?_);intro sx _;generalize sx 6 0=gV;generalize sx 9 0=gY;generalize sx 12 0=gP
 repeat (first|refine Tw ?_|(refine Tm ?_;intro _)|exact Tz)
 exact WX.ret1 rfl uh [⟨gP,67,Pr.flatMap pfC++yO 77 0⟩,⟨gY,24,Y.flatMap zc++zc 77⟩,⟨gV,24,V.flatMap zc++zc 77⟩] (by repeat (first|exact Lle.nil|refine Lle.c ?_)) ⟨fun i=>if i=0 then gV else if i=1 then gY else gP,rfl,rfl,trivial⟩
theorem nU (bV bY bP:Nat) (hV:V.length≤100) (hY:Y.length≤100) (hP:Pr.length≤100) :
  Fn Tryz.prog 15 [dlV ep d (.slice (some ⟨bV,0,none⟩) V.length (V.length+1)) (.slice (some ⟨bY,0,none⟩) Y.length (Y.length+1)) (.slice (some ⟨bP,0,none⟩) Pr.length (Pr.length+1)) sC sS,dlV ep d (.slice pV V.length cV) (.slice pY Y.length cY) (.slice pP Pr.length cP) sC sS]
   (fun w=>(Seg w bV 0 (V.flatMap zc++zc 77)∧Seg w bY 0 (Y.flatMap zc++zc 77)∧Seg w bP 0 (Pr.flatMap pfC++yO 77 0))∧RdF zc (.slice pV V.length cV) V w∧RdF zc (.slice pY Y.length cY) Y w∧RdF pfC (.slice pP Pr.length cP) Pr w) (Is (.bool true)):=by
 have h1:=rB V pV cV bV hV;have h2:=rB Y pY cY bY hY;have h3:=lW Pr pP cP bP hP;refine Fn.enter Tryz.func15 rfl rfl rfl ?_;intro w hw;obtain⟨⟨v1,v2,v3⟩,w1,w2,w3⟩:=hw
 repeat (first|refine Ta ?_|(refine Tm ?_;intro _)|refine WO.does (bp (a:=sC) (b:=sS) rfl rfl) ?_|refine WO.does (yf rfl rfl rfl) ?_|refine WO.acallR (hc:=h1) (hR:=fun w hm=>⟨v1.mod hm.mod (by simp),w1.mod hm.mod⟩) (k:=?_)|refine WO.acallR (hc:=h2) (hR:=fun w hm=>⟨v2.mod hm.mod (by simp),w2.mod hm.mod⟩) (k:=?_)|refine WO.acallR (hc:=h3) (hR:=fun w hm=>⟨v3.mod hm.mod (by simp),w3.mod hm.mod⟩) (k:=?_)|refine Tc ?_|exact Tz)
 done
end
end Sx
end
end Go.Proofs.YtbbppkkhidkjpaaGreatDoor
