/- Part 44 of the proof. -/
import Derived.Test.YtbhblpnjhkddbaaGreatE37
set_option linter.unusedSimpArgs false
set_option linter.unusedVariables false
set_option maxHeartbeats 8000000
namespace Go.Proofs.YtbhblpnjhkddbaaGreat
section
open Go Go.RowKit Go.BigFrame
namespace Sx
attribute [local irreducible] DQ DQS WC WO WX wd
theorem RdF.rdK {v:Value} {N:List (Nat × Nat)} {w:World} (h:RdF y7 v N w):RdK v N w:=h
abbrev acv:Value:=.tuple #[dlV 0 0 (.slice none 0 0) (.slice none 0 0) (.slice none 0 0) 0 0,.int .i64 1]
section
variable (p q g h:Nat) (f sec:Int) (pt:Option Addr) (c:Nat) (N:List (Nat × Nat)) (ep d x:Nat) (pz:Option Addr) (cz:Nat) (l:List Nat)
theorem aaN (hp:p<zc) (hq:q<zc) (hg:g<zc) (hh:h<zc) (hN:yC N) (hNl:N.length≤100) (hl:∀ a∈l,a<zc) (hn:l.length≤100)
  (hf1 : -9223372036854775808≤f) (hf2:f≤9223372036854775807) (hs1 : -9223372036854775808≤sec) (hs2:sec≤9223372036854775807) (hd:d<256) (hx:x<zc)
  (hA:qZ p q g h f sec N d l x=false) :
  Fn Tryz.prog 19 [stV p q g h f sec (.slice pt N.length c),.int .u64 (ep:Int),.int .u8 (d:Int),.slice pz l.length cz,ze x] (fun w=>RdF y7 (.slice pt N.length c) N w∧RdF zb (.slice pz l.length cz) l w) (Is acv):=by
 have hS:=yr p q g h f sec pt c N hp hq hg hh hN (by omega) hf1 hf2 hs1 hs2;have hNd:=bR p q g h f sec pt c N d hd (by omega);unfold qZ at hA;cases e1:vl p q g h f sec N with
 | false =>
  rw[e1] at hS;clear hA hNd hN hNl hf1 hf2 hs1 hs2 hn hx hp hq hg hh;refine Fn.enter Tryz.func19 rfl rfl rfl ?_;intro w hw;obtain⟨hwK,hwY⟩:=hw
  repeat (first|refine Tw ?_|(refine Tm ?_;intro _)|exact Tz)
  refine WC.adraw 28 (k:=?_)
  iterate 28 (first|refine Da ?_|refine DQ.acallR (hc:=hS) (hR:=fun w hm=>(hwK.mod hm.mod).rdK) (k:=?_)|refine Dc ?_)
  refine DQ.anil (k:=?_);intro sx _
  repeat (first|refine Tw ?_|(refine Tm ?_;intro _)|exact Tz)
  done
 | true =>
 rw[e1] at hS hA;have hsp:=yo e1;cases e2:vI d N with
 | false =>
  rw[e2] at hNd;clear hA hN hNl hf1 hf2 hs1 hs2 hn hx hp hq hg hh hsp;refine Fn.enter Tryz.func19 rfl rfl rfl ?_;intro w hw;obtain⟨hwK,hwY⟩:=hw
  repeat (first|refine Tw ?_|(refine Tm ?_;intro _)|exact Tz)
  refine WC.adraw 28 (k:=?_)
  iterate 28 (first|refine Da ?_|refine DQ.acallR (hc:=hS) (hR:=fun w hm=>(hwK.mod hm.mod).rdK) (k:=?_)|refine DQ.acall (hc:=hNd) (k:=?_)|refine Dc ?_)
  refine DQ.anil (k:=?_);intro sx _
  repeat (first|refine Tw ?_|(refine Tm ?_;intro _)|exact Tz)
  done
 | true =>
 rw[e2] at hNd hA;have hP:=bp p q g h f sec (.slice pt N.length c) l pz cz hl (by omega) hq ⟨hsp.2.2.2.1,by omega,hsp.2.2.2.2.2.1⟩;cases e3:(decide ((l.length:Int)=f+sec) && uk q l) with
 | false =>
  rw[e3] at hP;clear hA hN hNl hf1 hf2 hs1 hs2 hn hx hp hq hg hh hsp;refine Fn.enter Tryz.func19 rfl rfl rfl ?_;intro w hw;obtain⟨hwK,hwY⟩:=hw
  repeat (first|refine Tw ?_|(refine Tm ?_;intro _)|exact Tz)
  refine WC.adraw 28 (k:=?_)
  iterate 28 (first|refine Da ?_|refine DQ.acallR (hc:=hS) (hR:=fun w hm=>(hwK.mod hm.mod).rdK) (k:=?_)|refine DQ.acall (hc:=hNd) (k:=?_)|refine DQ.acallR (hc:=hP) (hR:=fun w hm=>hwY.mod hm.mod) (k:=?_)|refine Dc ?_)
  refine DQ.anil (k:=?_);intro sx _
  repeat (first|refine Tw ?_|(refine Tm ?_;intro _)|exact Tz)
  done
 | true =>
 rw[e3] at hP hA;obtain⟨n1,n2⟩:=yp e2;have hlt:d - 1<N.length:=by omega
 obtain⟨k,hk⟩ : ∃ k,N[d - 1]?=some k:=⟨_,List.getElem?_eq_getElem hlt⟩;have hkb:=hN k (List.mem_of_getElem? hk);have hSec:=ke p q g h f sec (.slice pt N.length c) x k.1 hx hkb.1 hp hq hg;rw[gy hk] at hA;rw[show jD p q g x k.1=false by simpa using hA] at hSec;have hsub:IntKind.u8.wrap ((d:Int) - 1)=((d - 1:Nat):Int):=by
  have:(d:Int) - 1=((d - 1:Nat):Int):=by omega
  rw[this];exact u8_in (by omega) (by omega)
 clear hA hN hNl hf1 hf2 hs1 hs2 hn hx hp hq hg hh hsp hkb;refine Fn.enter Tryz.func19 rfl rfl rfl ?_;intro w hw;obtain⟨hwK,hwY⟩:=hw;obtain⟨b,o,rfl,_,hs⟩:=hwK.get hk
 repeat (first|refine Tw ?_|(refine Tm ?_;intro _)|exact Tz)
 refine WC.adraw 28 (k:=?_)
 iterate 28 (first|refine Da ?_|refine DQ.acallR (hc:=hS) (hR:=fun w hm=>(hwK.mod hm.mod).rdK) (k:=?_)|refine DQ.acall (hc:=hNd) (k:=?_)|refine DQ.acallR (hc:=hP) (hR:=fun w hm=>hwY.mod hm.mod) (k:=?_)|refine DQ.acall (hc:=hSec) (k:=?_)|refine DQ.does (fun s _=>zp rfl rfl hsub) Dp.const ?_|refine DQ.does (fun s _=>za (i:=d - 1) (o':=o+(d - 1)*8) rfl rfl hlt rfl) Dp.const ?_|refine DQ.does (fun s _=>zk (vs:=zb k.1) (hs:=hs) (hle:=by omega) (hc:=lZ hk)) Dp.const ?_|refine Dc ?_)
 refine DQ.anil (k:=?_);intro sx _
 repeat (first|refine Tw ?_|(refine Tm ?_;intro _)|exact Tz)
 done
end
section
open Kp
variable {P:Program} {w0:World} {gs:List Nat} {n:Nat} {fl:List Nat} {Q:Exit→Act→World→Prop} {ops:List Oper} {L0:List Ent}
variable {tail rest:List Oper} {i:Nat} {C:zC→Prop} {K:zC→List (Nat × Value)} {N:zC→List (Nat × Ent)}
variable {d:Nat} {op:Op} {ty:TypeId} {pos:String} {after:Array Edge} {gd:Option (Nat × Bool)}
theorem DQ.acallSE {f:FuncId} [Cal P f] {xs:Array Operand} {ats:Array TypeId} {vs:zC→List Value} {Rq:zC→World→Prop} {t m:Nat} {cs:List Value} (E:zC→List Ent) (hE:∀ s,Vs ops i (N s) (E s)) (hc:∀ s,C s→Fn P f (vs s) (Rq s) (eo t m cs)) (hR:∀ s,C s→∀ w,Mr w0 gs (E s++L0) w→Rq s w) (ha:∀ s,evs (K s) xs.toList=some (vs s))
  (k:DQ P w0 gs n fl Q ops L0 tail (i+1) rest (fun s=>C s∧True) (fun s=>(d,.slice (some ⟨s i 0,0,none⟩) m m)::K s) (fun s=>(i,⟨s i 0,t,cs⟩)::N s))
  (hfl:fl.contains i=false:=by rfl) (hw:∀ s,wk ops (K s) gd=some true:=by intro _;rfl) (hd:Nat.blt d n=true:=by rfl) :
  DQ P w0 gs n fl Q ops L0 tail i (⟨some d,.call { callee:=.value (.func f),args:=xs,argTypes:=ats },ty,pos,after,gd⟩::rest) C K N :=
 DQ.callsE (fs:=fun _=>[]) (cs:=fun _=>[]) (R:=Rq) (vf:=fun _ x=>.slice (some ⟨x 0,0,none⟩) m m) (Nf:=fun _ x=>[⟨x 0,t,cs⟩]) (S:=fun _ _=>True) E hE
  (fun _=>⟨fun _=>0,trivial⟩) (fun s hC=>Fn.weak (hc s hC) (fun _ h=>h) (fun v N ⟨g,e1,e2⟩=>⟨fun _=>g,e1,e2,trivial⟩)) (fun _=>rfl) ha (fun _=>by simp) hR Dp.const Dp.const Dp.const k hfl hw hd
end
section
variable {α:Type} {f:Nat→α} {F:α→List Value} {k:Nat} {z:List Value} {i n:Nat}
theorem nw (h:i<n):((List.range n).map f)[i]?=some (f i):=by simp[h]
theorem uK (hk:∀ x,(F x).length=k) (hz:z.length=k) (h:i<n):over (((List.range i).map f).flatMap F++mkz (n - i) z) (0+i*k) (F (f i))=((List.range (i+1)).map f).flatMap F++mkz (n - (i+1)) z:=by
 have htk:∀ j,j≤n→((List.range n).map f).take j=(List.range j).map f:=fun j hj=>by rw[← List.map_take,List.take_range,Nat.min_eq_left hj]
 have:=sV (f:=F) (z:=z) (m:=n - i) hk hz (nw (f:=f) h) (by omega);rw[htk i (by omega),htk (i+1) (by omega),hz,show n - i - 1=n - (i+1) by omega] at this;rw[Nat.zero_add];exact this
theorem tE (hk:∀ x,(F x).length=k) (hz:z.length=k) (h:i<n):Nat.ble (0+i*k+k) (((List.range i).map f).flatMap F++mkz (n - i) z).length=true:=by
 rw[Nat.ble_eq,List.length_append,zB hk,zQ,List.length_map,List.length_range,hz,Nat.zero_add];have:1*k≤(n - i)*k:=Nat.mul_le_mul_right _ (by omega);omega
theorem o8 {r:List Value} (hk:∀ x,(F x).length=k):cut (((List.range (i+1)).map f).flatMap F++r) (0+i*k) k=F (f i):=by
 rw[Nat.zero_add];exact ov hk (nw (Nat.lt_succ_self i))
end
section
variable (p q g h:Nat) (f sec:Int) (pt:Option Addr) (c:Nat) (N:List (Nat × Nat)) (ep d x:Nat) (pz:Option Addr) (cz:Nat) (l:List Nat)
def VS (n i:Nat):List Value:=((List.range i).map (dV p q g l)).flatMap zb++mkz (n - i) (zb 0)
def YS (n i:Nat):List Value:=((List.range i).map (dY p q l N)).flatMap zb++mkz (n - i) (zb 0)
def PS (n i:Nat):List Value:=((List.range i).map (dP p q g l N ep d x)).flatMap pfC++mkz (n - i) (tI 0 0)
theorem iL (hp:p<zc) (hq:q<zc) (hg:g<zc) (hh:h<zc) (hN:yC N) (hNl:N.length≤100) (hl:∀ a∈l,a<zc) (hn:l.length≤100)
  (hf1 : -9223372036854775808≤f) (hf2:f≤9223372036854775807) (hs1 : -9223372036854775808≤sec) (hs2:sec≤9223372036854775807) (hd:d<256) (hx:x<zc) (hep:ep<18446744073709551616)
  (hA:qZ p q g h f sec N d l x=true) :
  Fn Tryz.prog 19 [stV p q g h f sec (.slice pt N.length c),.int .u64 (ep:Int),.int .u8 (d:Int),.slice pz l.length cz,ze x] (fun w=>RdF y7 (.slice pt N.length c) N w∧RdF zb (.slice pz l.length cz) l w)
   (Ex (fun s=>.tuple #[dlV ep d (.slice (some ⟨s 0,0,none⟩) N.length N.length) (.slice (some ⟨s 1,0,none⟩) N.length N.length) (.slice (some ⟨s 2,0,none⟩) N.length N.length) (dSg p q g l N ep d x N.length).1 (dSg p q g l N ep d x N.length).2,.int .i64 0])
    (fun s=>[⟨s 2,44,(dPs p q g l N ep d x N.length).flatMap pfC⟩,⟨s 1,24,(dYs p q l N N.length).flatMap zb⟩,⟨s 0,24,(dVs p q g l N.length).flatMap zb⟩]) (fun _=>True)):=by
 have hS:=yr p q g h f sec pt c N hp hq hg hh hN (by omega) hf1 hf2 hs1 hs2;have hNd:=bR p q g h f sec pt c N d hd (by omega);unfold qZ at hA;rw[Bool.and_eq_true,Bool.and_eq_true,Bool.and_eq_true] at hA;obtain⟨⟨⟨e1,e2⟩,e3⟩,e4⟩:=hA;rw[e1] at hS;rw[e2] at hNd;have hsp:=yo e1;have hP:=bp p q g h f sec (.slice pt N.length c) l pz cz hl (by omega) hq ⟨hsp.2.2.2.1,by omega,hsp.2.2.2.2.2.1⟩;rw[e3] at hP;have hall:uk q l=true:=by rw[Bool.and_eq_true] at e3;exact e3.2
 obtain⟨n1,n2⟩:=yp e2;have hlt:d - 1<N.length:=by omega
 obtain⟨k,hk⟩ : ∃ k,N[d - 1]?=some k:=⟨_,List.getElem?_eq_getElem hlt⟩;have hkb:=hN k (List.mem_of_getElem? hk);have hSec:=ke p q g h f sec (.slice pt N.length c) x k.1 hx hkb.1 hp hq hg;rw[gy hk] at e4;rw[e4] at hSec;have hsub:IntKind.u8.wrap ((d:Int) - 1)=((d - 1:Nat):Int):=v6 (by omega) (by omega) (by omega);have hSh:=abO p q g h l pz cz N.length hl (by omega) hq hall hsp.1 hsp.2.1 hsp.2.2.1;have hn1:=hsp.1;have hn7:=hsp.2.1;have hq0:0<q:=by have:=hsp.2.2.1;omega
 clear e1 e2 e3 hsp hall n1 n2 hkb hf1 hf2 hs1 hs2 hn;refine Fn.enter Tryz.func19 rfl rfl rfl ?_;intro w hw;obtain⟨hwK,hwY⟩:=hw;obtain⟨b,o,rfl,_,hs⟩:=id hwK |>.get hk
 repeat (first|refine Tw ?_|(refine Tm ?_;intro _)|exact Tz)
 rename_i gS gX gD;refine WC.adraw 28 (k:=?_)
 iterate 28 (first|refine Da ?_|refine DQ.acallR (hc:=hS) (hR:=fun w hm=>(hwK.mod hm.mod).rdK) (k:=?_)|refine DQ.acall (hc:=hNd) (k:=?_)|refine DQ.acallR (hc:=hP) (hR:=fun w hm=>hwY.mod hm.mod) (k:=?_)|refine DQ.acall (hc:=hSec) (k:=?_)|refine DQ.does (fun s _=>zp rfl rfl hsub) Dp.const ?_|refine DQ.does (fun s _=>za (i:=d - 1) (o':=o+(d - 1)*8) rfl rfl hlt rfl) Dp.const ?_|refine DQ.does (fun s _=>zk (vs:=zb k.1) (hs:=hs) (hle:=by omega) (hc:=lZ hk)) Dp.const ?_|refine Dc ?_)
 refine DQ.anil (k:=?_);intro sx _
 repeat (first|refine Tw ?_|(refine Tm ?_;intro _)|exact Tz)
 refine WC.allA (fun A hA=>?_)
 suffices hS255:∀ gG,A [(51,pt gS),(52,yR p q g h),(53,.pointer (some ⟨gS,18,none⟩)),(54,.slice (some ⟨b,o,none⟩) N.length c),(55,.int .i64 (N.length:Int)),(12,pt gG),(13,.int .i64 (N.length:Int)),(1,.int .u64 (ep:Int)),(2,.int .u8 (d:Int)),(3,.slice pz l.length cz),(5,pt gS),(9,pt gX),(10,pt gD),(11,.int .i64 0)] [⟨gG,26,vg p q g h⟩,⟨gD,37,dlC 0 0 (.slice none 0 0) (.slice none 0 0) (.slice none 0 0) 0 0⟩,⟨gX,24,zb x⟩,⟨gS,29,stC p q g h f sec (.slice (some ⟨b,o,none⟩) N.length c)⟩] (bt 8 255) 0 by
  have hS127:∀ gG,A [(51,pt gS),(52,yR p q g h),(53,.pointer (some ⟨gS,18,none⟩)),(54,.slice (some ⟨b,o,none⟩) N.length c),(55,.int .i64 (N.length:Int)),(12,pt gG),(1,.int .u64 (ep:Int)),(2,.int .u8 (d:Int)),(3,.slice pz l.length cz),(5,pt gS),(9,pt gX),(10,pt gD),(11,.int .i64 0)] [⟨gG,26,vg p q g h⟩,⟨gD,37,dlC 0 0 (.slice none 0 0) (.slice none 0 0) (.slice none 0 0) 0 0⟩,⟨gX,24,zb x⟩,⟨gS,29,stC p q g h f sec (.slice (some ⟨b,o,none⟩) N.length c)⟩] (bt 8 127) 1:=by
   intro gG;refine (hA _ _ _ _).2 (WA.step [7] (.cons ?_ .nil))
   ·refine Tw ?_;exact WA.go hA (hS255 gG)
  have hS63:∀ gG,A [(51,pt gS),(52,yR p q g h),(53,.pointer (some ⟨gS,18,none⟩)),(54,.slice (some ⟨b,o,none⟩) N.length c),(55,.int .i64 (N.length:Int)),(12,pt gG),(1,.int .u64 (ep:Int)),(2,.int .u8 (d:Int)),(3,.slice pz l.length cz),(5,pt gS),(9,pt gX),(10,pt gD),(11,.int .i64 0)] [⟨gG,26,vg 0 0 0 0⟩,⟨gD,37,dlC 0 0 (.slice none 0 0) (.slice none 0 0) (.slice none 0 0) 0 0⟩,⟨gX,24,zb x⟩,⟨gS,29,stC p q g h f sec (.slice (some ⟨b,o,none⟩) N.length c)⟩] (bt 8 63) 2:=by
   intro gG;refine (hA _ _ _ _).2 (WA.step [6] (.cons ?_ .nil))
   ·refine Tw ?_;exact WA.go hA (hS127 gG)
  have hS111:∀ gG,A [(51,pt gS),(52,yR p q g h),(53,.pointer (some ⟨gS,18,none⟩)),(54,.slice (some ⟨b,o,none⟩) N.length c),(12,pt gG),(1,.int .u64 (ep:Int)),(2,.int .u8 (d:Int)),(3,.slice pz l.length cz),(5,pt gS),(9,pt gX),(10,pt gD),(11,.int .i64 0)] [⟨gG,26,vg p q g h⟩,⟨gD,37,dlC 0 0 (.slice none 0 0) (.slice none 0 0) (.slice none 0 0) 0 0⟩,⟨gX,24,zb x⟩,⟨gS,29,stC p q g h f sec (.slice (some ⟨b,o,none⟩) N.length c)⟩] (bt 8 111) 2:=by
   intro gG;refine (hA _ _ _ _).2 (WA.step [4] (.cons ?_ .nil))
   ·refine Tw ?_;exact WA.go hA (hS127 gG)
  have hS31:A [(51,pt gS),(52,yR p q g h),(53,.pointer (some ⟨gS,18,none⟩)),(54,.slice (some ⟨b,o,none⟩) N.length c),(55,.int .i64 (N.length:Int)),(1,.int .u64 (ep:Int)),(2,.int .u8 (d:Int)),(3,.slice pz l.length cz),(5,pt gS),(9,pt gX),(10,pt gD),(11,.int .i64 0)] [⟨gD,37,dlC 0 0 (.slice none 0 0) (.slice none 0 0) (.slice none 0 0) 0 0⟩,⟨gX,24,zb x⟩,⟨gS,29,stC p q g h f sec (.slice (some ⟨b,o,none⟩) N.length c)⟩] (bt 8 31) 3:=by
   refine (hA _ _ _ _).2 (WA.step [5] (.cons ?_ .nil))
   ·(refine WO.autoM (k:=?_);intro gG);exact WA.go hA (hS63 gG)
  have hS47:∀ gG,A [(51,pt gS),(52,yR p q g h),(53,.pointer (some ⟨gS,18,none⟩)),(54,.slice (some ⟨b,o,none⟩) N.length c),(12,pt gG),(1,.int .u64 (ep:Int)),(2,.int .u8 (d:Int)),(3,.slice pz l.length cz),(5,pt gS),(9,pt gX),(10,pt gD),(11,.int .i64 0)] [⟨gG,26,vg 0 0 0 0⟩,⟨gD,37,dlC 0 0 (.slice none 0 0) (.slice none 0 0) (.slice none 0 0) 0 0⟩,⟨gX,24,zb x⟩,⟨gS,29,stC p q g h f sec (.slice (some ⟨b,o,none⟩) N.length c)⟩] (bt 8 47) 3:=by
   intro gG;refine (hA _ _ _ _).2 (WA.step [4,6] (.cons ?_ (.cons ?_ .nil)))
   ·refine Tw ?_;exact WA.go hA (hS63 gG)
   ·refine Tw ?_;exact WA.go hA (hS111 gG)
  have hS103:∀ gG,A [(51,pt gS),(52,yR p q g h),(53,.pointer (some ⟨gS,18,none⟩)),(12,pt gG),(1,.int .u64 (ep:Int)),(2,.int .u8 (d:Int)),(3,.slice pz l.length cz),(5,pt gS),(9,pt gX),(10,pt gD),(11,.int .i64 0)] [⟨gG,26,vg p q g h⟩,⟨gD,37,dlC 0 0 (.slice none 0 0) (.slice none 0 0) (.slice none 0 0) 0 0⟩,⟨gX,24,zb x⟩,⟨gS,29,stC p q g h f sec (.slice (some ⟨b,o,none⟩) N.length c)⟩] (bt 8 103) 3:=by
   intro gG;refine (hA _ _ _ _).2 (WA.step [3] (.cons ?_ .nil))
   ·refine Tw ?_;exact WA.go hA (hS111 gG)
  have hS61:∀ gG,A [(51,pt gS),(53,.pointer (some ⟨gS,18,none⟩)),(54,.slice (some ⟨b,o,none⟩) N.length c),(55,.int .i64 (N.length:Int)),(12,pt gG),(1,.int .u64 (ep:Int)),(2,.int .u8 (d:Int)),(3,.slice pz l.length cz),(5,pt gS),(9,pt gX),(10,pt gD),(11,.int .i64 0)] [⟨gG,26,vg 0 0 0 0⟩,⟨gD,37,dlC 0 0 (.slice none 0 0) (.slice none 0 0) (.slice none 0 0) 0 0⟩,⟨gX,24,zb x⟩,⟨gS,29,stC p q g h f sec (.slice (some ⟨b,o,none⟩) N.length c)⟩] (bt 8 61) 3:=by
   intro gG;refine (hA _ _ _ _).2 (WA.step [1] (.cons ?_ .nil))
   ·refine Tw ?_;exact WA.go hA (hS63 gG)
  have hS15:A [(51,pt gS),(52,yR p q g h),(53,.pointer (some ⟨gS,18,none⟩)),(54,.slice (some ⟨b,o,none⟩) N.length c),(1,.int .u64 (ep:Int)),(2,.int .u8 (d:Int)),(3,.slice pz l.length cz),(5,pt gS),(9,pt gX),(10,pt gD),(11,.int .i64 0)] [⟨gD,37,dlC 0 0 (.slice none 0 0) (.slice none 0 0) (.slice none 0 0) 0 0⟩,⟨gX,24,zb x⟩,⟨gS,29,stC p q g h f sec (.slice (some ⟨b,o,none⟩) N.length c)⟩] (bt 8 15) 4:=by
   refine (hA _ _ _ _).2 (WA.step [4,5] (.cons ?_ (.cons ?_ .nil)))
   ·refine Tw ?_;exact WA.go hA (hS31)
   ·(refine WO.autoM (k:=?_);intro gG);exact WA.go hA (hS47 gG)
  have hS39:∀ gG,A [(51,pt gS),(52,yR p q g h),(53,.pointer (some ⟨gS,18,none⟩)),(12,pt gG),(1,.int .u64 (ep:Int)),(2,.int .u8 (d:Int)),(3,.slice pz l.length cz),(5,pt gS),(9,pt gX),(10,pt gD),(11,.int .i64 0)] [⟨gG,26,vg 0 0 0 0⟩,⟨gD,37,dlC 0 0 (.slice none 0 0) (.slice none 0 0) (.slice none 0 0) 0 0⟩,⟨gX,24,zb x⟩,⟨gS,29,stC p q g h f sec (.slice (some ⟨b,o,none⟩) N.length c)⟩] (bt 8 39) 4:=by
   intro gG;refine (hA _ _ _ _).2 (WA.step [3,6] (.cons ?_ (.cons ?_ .nil)))
   ·refine Tw ?_;exact WA.go hA (hS47 gG)
   ·refine Tw ?_;exact WA.go hA (hS103 gG)
  have hS99:∀ gG,A [(51,pt gS),(52,yR p q g h),(12,pt gG),(1,.int .u64 (ep:Int)),(2,.int .u8 (d:Int)),(3,.slice pz l.length cz),(5,pt gS),(9,pt gX),(10,pt gD),(11,.int .i64 0)] [⟨gG,26,vg p q g h⟩,⟨gD,37,dlC 0 0 (.slice none 0 0) (.slice none 0 0) (.slice none 0 0) 0 0⟩,⟨gX,24,zb x⟩,⟨gS,29,stC p q g h f sec (.slice (some ⟨b,o,none⟩) N.length c)⟩] (bt 8 99) 4:=by
   intro gG;refine (hA _ _ _ _).2 (WA.step [2] (.cons ?_ .nil))
   ·refine Tw ?_;exact WA.go hA (hS103 gG)
  have hS29:A [(51,pt gS),(53,.pointer (some ⟨gS,18,none⟩)),(54,.slice (some ⟨b,o,none⟩) N.length c),(55,.int .i64 (N.length:Int)),(1,.int .u64 (ep:Int)),(2,.int .u8 (d:Int)),(3,.slice pz l.length cz),(5,pt gS),(9,pt gX),(10,pt gD),(11,.int .i64 0)] [⟨gD,37,dlC 0 0 (.slice none 0 0) (.slice none 0 0) (.slice none 0 0) 0 0⟩,⟨gX,24,zb x⟩,⟨gS,29,stC p q g h f sec (.slice (some ⟨b,o,none⟩) N.length c)⟩] (bt 8 29) 4:=by
   refine (hA _ _ _ _).2 (WA.step [1,5] (.cons ?_ (.cons ?_ .nil)))
   ·refine Tw ?_;exact WA.go hA (hS31)
   ·(refine WO.autoM (k:=?_);intro gG);exact WA.go hA (hS61 gG)
  have hS45:∀ gG,A [(51,pt gS),(53,.pointer (some ⟨gS,18,none⟩)),(54,.slice (some ⟨b,o,none⟩) N.length c),(12,pt gG),(1,.int .u64 (ep:Int)),(2,.int .u8 (d:Int)),(3,.slice pz l.length cz),(5,pt gS),(9,pt gX),(10,pt gD),(11,.int .i64 0)] [⟨gG,26,vg 0 0 0 0⟩,⟨gD,37,dlC 0 0 (.slice none 0 0) (.slice none 0 0) (.slice none 0 0) 0 0⟩,⟨gX,24,zb x⟩,⟨gS,29,stC p q g h f sec (.slice (some ⟨b,o,none⟩) N.length c)⟩] (bt 8 45) 4:=by
   intro gG;refine (hA _ _ _ _).2 (WA.step [1,4] (.cons ?_ (.cons ?_ .nil)))
   ·refine Tw ?_;exact WA.go hA (hS47 gG)
   ·refine Tw ?_;exact WA.go hA (hS61 gG)
  have hS60:∀ gG,A [(53,.pointer (some ⟨gS,18,none⟩)),(54,.slice (some ⟨b,o,none⟩) N.length c),(55,.int .i64 (N.length:Int)),(12,pt gG),(1,.int .u64 (ep:Int)),(2,.int .u8 (d:Int)),(3,.slice pz l.length cz),(5,pt gS),(9,pt gX),(10,pt gD),(11,.int .i64 0)] [⟨gG,26,vg 0 0 0 0⟩,⟨gD,37,dlC 0 0 (.slice none 0 0) (.slice none 0 0) (.slice none 0 0) 0 0⟩,⟨gX,24,zb x⟩,⟨gS,29,stC p q g h f sec (.slice (some ⟨b,o,none⟩) N.length c)⟩] (bt 8 60) 4:=by
   intro gG;refine (hA _ _ _ _).2 (WA.step [0] (.cons ?_ .nil))
   ·refine Tw ?_;exact WA.go hA (hS61 gG)
  have hS7:A [(51,pt gS),(52,yR p q g h),(53,.pointer (some ⟨gS,18,none⟩)),(1,.int .u64 (ep:Int)),(2,.int .u8 (d:Int)),(3,.slice pz l.length cz),(5,pt gS),(9,pt gX),(10,pt gD),(11,.int .i64 0)] [⟨gD,37,dlC 0 0 (.slice none 0 0) (.slice none 0 0) (.slice none 0 0) 0 0⟩,⟨gX,24,zb x⟩,⟨gS,29,stC p q g h f sec (.slice (some ⟨b,o,none⟩) N.length c)⟩] (bt 8 7) 5:=by
   refine (hA _ _ _ _).2 (WA.step [3,5] (.cons ?_ (.cons ?_ .nil)))
   ·refine Tw ?_;exact WA.go hA (hS15)
   ·(refine WO.autoM (k:=?_);intro gG);exact WA.go hA (hS39 gG)
  have hS35:∀ gG,A [(51,pt gS),(52,yR p q g h),(12,pt gG),(1,.int .u64 (ep:Int)),(2,.int .u8 (d:Int)),(3,.slice pz l.length cz),(5,pt gS),(9,pt gX),(10,pt gD),(11,.int .i64 0)] [⟨gG,26,vg 0 0 0 0⟩,⟨gD,37,dlC 0 0 (.slice none 0 0) (.slice none 0 0) (.slice none 0 0) 0 0⟩,⟨gX,24,zb x⟩,⟨gS,29,stC p q g h f sec (.slice (some ⟨b,o,none⟩) N.length c)⟩] (bt 8 35) 5:=by
   intro gG;refine (hA _ _ _ _).2 (WA.step [2,6] (.cons ?_ (.cons ?_ .nil)))
   ·refine Tw ?_;exact WA.go hA (hS39 gG)
   ·refine Tw ?_;exact WA.go hA (hS99 gG)
  have hS13:A [(51,pt gS),(53,.pointer (some ⟨gS,18,none⟩)),(54,.slice (some ⟨b,o,none⟩) N.length c),(1,.int .u64 (ep:Int)),(2,.int .u8 (d:Int)),(3,.slice pz l.length cz),(5,pt gS),(9,pt gX),(10,pt gD),(11,.int .i64 0)] [⟨gD,37,dlC 0 0 (.slice none 0 0) (.slice none 0 0) (.slice none 0 0) 0 0⟩,⟨gX,24,zb x⟩,⟨gS,29,stC p q g h f sec (.slice (some ⟨b,o,none⟩) N.length c)⟩] (bt 8 13) 5:=by
   refine (hA _ _ _ _).2 (WA.step [1,4,5] (.cons ?_ (.cons ?_ (.cons ?_ .nil))))
   ·refine Tw ?_;exact WA.go hA (hS15)
   ·refine Tw ?_;exact WA.go hA (hS29)
   ·(refine WO.autoM (k:=?_);intro gG);exact WA.go hA (hS45 gG)
  have hS37:∀ gG,A [(51,pt gS),(53,.pointer (some ⟨gS,18,none⟩)),(12,pt gG),(1,.int .u64 (ep:Int)),(2,.int .u8 (d:Int)),(3,.slice pz l.length cz),(5,pt gS),(9,pt gX),(10,pt gD),(11,.int .i64 0)] [⟨gG,26,vg 0 0 0 0⟩,⟨gD,37,dlC 0 0 (.slice none 0 0) (.slice none 0 0) (.slice none 0 0) 0 0⟩,⟨gX,24,zb x⟩,⟨gS,29,stC p q g h f sec (.slice (some ⟨b,o,none⟩) N.length c)⟩] (bt 8 37) 5:=by
   intro gG;refine (hA _ _ _ _).2 (WA.step [1,3] (.cons ?_ (.cons ?_ .nil)))
   ·refine Tw ?_;exact WA.go hA (hS39 gG)
   ·refine Tw ?_;exact WA.go hA (hS45 gG)
  have hS28:A [(53,.pointer (some ⟨gS,18,none⟩)),(54,.slice (some ⟨b,o,none⟩) N.length c),(55,.int .i64 (N.length:Int)),(1,.int .u64 (ep:Int)),(2,.int .u8 (d:Int)),(3,.slice pz l.length cz),(5,pt gS),(9,pt gX),(10,pt gD),(11,.int .i64 0)] [⟨gD,37,dlC 0 0 (.slice none 0 0) (.slice none 0 0) (.slice none 0 0) 0 0⟩,⟨gX,24,zb x⟩,⟨gS,29,stC p q g h f sec (.slice (some ⟨b,o,none⟩) N.length c)⟩] (bt 8 28) 5:=by
   refine (hA _ _ _ _).2 (WA.step [0,5] (.cons ?_ (.cons ?_ .nil)))
   ·refine Tw ?_;exact WA.go hA (hS29)
   ·(refine WO.autoM (k:=?_);intro gG);exact WA.go hA (hS60 gG)
  have hS44:∀ gG,A [(53,.pointer (some ⟨gS,18,none⟩)),(54,.slice (some ⟨b,o,none⟩) N.length c),(12,pt gG),(1,.int .u64 (ep:Int)),(2,.int .u8 (d:Int)),(3,.slice pz l.length cz),(5,pt gS),(9,pt gX),(10,pt gD),(11,.int .i64 0)] [⟨gG,26,vg 0 0 0 0⟩,⟨gD,37,dlC 0 0 (.slice none 0 0) (.slice none 0 0) (.slice none 0 0) 0 0⟩,⟨gX,24,zb x⟩,⟨gS,29,stC p q g h f sec (.slice (some ⟨b,o,none⟩) N.length c)⟩] (bt 8 44) 5:=by
   intro gG;refine (hA _ _ _ _).2 (WA.step [0,4] (.cons ?_ (.cons ?_ .nil)))
   ·refine Tw ?_;exact WA.go hA (hS45 gG)
   ·refine Tw ?_;exact WA.go hA (hS60 gG)
  have hS3:A [(51,pt gS),(52,yR p q g h),(1,.int .u64 (ep:Int)),(2,.int .u8 (d:Int)),(3,.slice pz l.length cz),(5,pt gS),(9,pt gX),(10,pt gD),(11,.int .i64 0)] [⟨gD,37,dlC 0 0 (.slice none 0 0) (.slice none 0 0) (.slice none 0 0) 0 0⟩,⟨gX,24,zb x⟩,⟨gS,29,stC p q g h f sec (.slice (some ⟨b,o,none⟩) N.length c)⟩] (bt 8 3) 6:=by
   refine (hA _ _ _ _).2 (WA.step [2,5] (.cons ?_ (.cons ?_ .nil)))
   ·refine Tw ?_;exact WA.go hA (hS7)
   ·(refine WO.autoM (k:=?_);intro gG);exact WA.go hA (hS35 gG)
  have hS5:A [(51,pt gS),(53,.pointer (some ⟨gS,18,none⟩)),(1,.int .u64 (ep:Int)),(2,.int .u8 (d:Int)),(3,.slice pz l.length cz),(5,pt gS),(9,pt gX),(10,pt gD),(11,.int .i64 0)] [⟨gD,37,dlC 0 0 (.slice none 0 0) (.slice none 0 0) (.slice none 0 0) 0 0⟩,⟨gX,24,zb x⟩,⟨gS,29,stC p q g h f sec (.slice (some ⟨b,o,none⟩) N.length c)⟩] (bt 8 5) 6:=by
   refine (hA _ _ _ _).2 (WA.step [1,3,5] (.cons ?_ (.cons ?_ (.cons ?_ .nil))))
   ·refine Tw ?_;exact WA.go hA (hS7)
   ·refine Tw ?_;exact WA.go hA (hS13)
   ·(refine WO.autoM (k:=?_);intro gG);exact WA.go hA (hS37 gG)
  have hS33:∀ gG,A [(51,pt gS),(12,pt gG),(1,.int .u64 (ep:Int)),(2,.int .u8 (d:Int)),(3,.slice pz l.length cz),(5,pt gS),(9,pt gX),(10,pt gD),(11,.int .i64 0)] [⟨gG,26,vg 0 0 0 0⟩,⟨gD,37,dlC 0 0 (.slice none 0 0) (.slice none 0 0) (.slice none 0 0) 0 0⟩,⟨gX,24,zb x⟩,⟨gS,29,stC p q g h f sec (.slice (some ⟨b,o,none⟩) N.length c)⟩] (bt 8 33) 6:=by
   intro gG;refine (hA _ _ _ _).2 (WA.step [1,2] (.cons ?_ (.cons ?_ .nil)))
   ·refine Tw ?_;exact WA.go hA (hS35 gG)
   ·refine Tw ?_;exact WA.go hA (hS37 gG)
  have hS12:A [(53,.pointer (some ⟨gS,18,none⟩)),(54,.slice (some ⟨b,o,none⟩) N.length c),(1,.int .u64 (ep:Int)),(2,.int .u8 (d:Int)),(3,.slice pz l.length cz),(5,pt gS),(9,pt gX),(10,pt gD),(11,.int .i64 0)] [⟨gD,37,dlC 0 0 (.slice none 0 0) (.slice none 0 0) (.slice none 0 0) 0 0⟩,⟨gX,24,zb x⟩,⟨gS,29,stC p q g h f sec (.slice (some ⟨b,o,none⟩) N.length c)⟩] (bt 8 12) 6:=by
   refine (hA _ _ _ _).2 (WA.step [0,4,5] (.cons ?_ (.cons ?_ (.cons ?_ .nil))))
   ·refine Tw ?_;exact WA.go hA (hS13)
   ·refine Tw ?_;exact WA.go hA (hS28)
   ·(refine WO.autoM (k:=?_);intro gG);exact WA.go hA (hS44 gG)
  have hS36:∀ gG,A [(53,.pointer (some ⟨gS,18,none⟩)),(12,pt gG),(1,.int .u64 (ep:Int)),(2,.int .u8 (d:Int)),(3,.slice pz l.length cz),(5,pt gS),(9,pt gX),(10,pt gD),(11,.int .i64 0)] [⟨gG,26,vg 0 0 0 0⟩,⟨gD,37,dlC 0 0 (.slice none 0 0) (.slice none 0 0) (.slice none 0 0) 0 0⟩,⟨gX,24,zb x⟩,⟨gS,29,stC p q g h f sec (.slice (some ⟨b,o,none⟩) N.length c)⟩] (bt 8 36) 6:=by
   intro gG;refine (hA _ _ _ _).2 (WA.step [0,3] (.cons ?_ (.cons ?_ .nil)))
   ·refine Tw ?_;exact WA.go hA (hS37 gG)
   ·refine Tw ?_;exact WA.go hA (hS44 gG)
  have hS1:A [(51,pt gS),(1,.int .u64 (ep:Int)),(2,.int .u8 (d:Int)),(3,.slice pz l.length cz),(5,pt gS),(9,pt gX),(10,pt gD),(11,.int .i64 0)] [⟨gD,37,dlC 0 0 (.slice none 0 0) (.slice none 0 0) (.slice none 0 0) 0 0⟩,⟨gX,24,zb x⟩,⟨gS,29,stC p q g h f sec (.slice (some ⟨b,o,none⟩) N.length c)⟩] (bt 8 1) 7:=by
   refine (hA _ _ _ _).2 (WA.step [1,2,5] (.cons ?_ (.cons ?_ (.cons ?_ .nil))))
   ·refine Tw ?_;exact WA.go hA (hS3)
   ·refine Tw ?_;exact WA.go hA (hS5)
   ·(refine WO.autoM (k:=?_);intro gG);exact WA.go hA (hS33 gG)
  have hS4:A [(53,.pointer (some ⟨gS,18,none⟩)),(1,.int .u64 (ep:Int)),(2,.int .u8 (d:Int)),(3,.slice pz l.length cz),(5,pt gS),(9,pt gX),(10,pt gD),(11,.int .i64 0)] [⟨gD,37,dlC 0 0 (.slice none 0 0) (.slice none 0 0) (.slice none 0 0) 0 0⟩,⟨gX,24,zb x⟩,⟨gS,29,stC p q g h f sec (.slice (some ⟨b,o,none⟩) N.length c)⟩] (bt 8 4) 7:=by
   refine (hA _ _ _ _).2 (WA.step [0,3,5] (.cons ?_ (.cons ?_ (.cons ?_ .nil))))
   ·refine Tw ?_;exact WA.go hA (hS5)
   ·refine Tw ?_;exact WA.go hA (hS12)
   ·(refine WO.autoM (k:=?_);intro gG);exact WA.go hA (hS36 gG)
  have hS32:∀ gG,A [(12,pt gG),(1,.int .u64 (ep:Int)),(2,.int .u8 (d:Int)),(3,.slice pz l.length cz),(5,pt gS),(9,pt gX),(10,pt gD),(11,.int .i64 0)] [⟨gG,26,vg 0 0 0 0⟩,⟨gD,37,dlC 0 0 (.slice none 0 0) (.slice none 0 0) (.slice none 0 0) 0 0⟩,⟨gX,24,zb x⟩,⟨gS,29,stC p q g h f sec (.slice (some ⟨b,o,none⟩) N.length c)⟩] (bt 8 32) 7:=by
   intro gG;refine (hA _ _ _ _).2 (WA.step [0,2] (.cons ?_ (.cons ?_ .nil)))
   ·refine Tw ?_;exact WA.go hA (hS33 gG)
   ·refine Tw ?_;exact WA.go hA (hS36 gG)
  have hS0:A [(1,.int .u64 (ep:Int)),(2,.int .u8 (d:Int)),(3,.slice pz l.length cz),(5,pt gS),(9,pt gX),(10,pt gD),(11,.int .i64 0)] [⟨gD,37,dlC 0 0 (.slice none 0 0) (.slice none 0 0) (.slice none 0 0) 0 0⟩,⟨gX,24,zb x⟩,⟨gS,29,stC p q g h f sec (.slice (some ⟨b,o,none⟩) N.length c)⟩] (bt 8 0) 8:=by
   refine (hA _ _ _ _).2 (WA.step [0,2,5] (.cons ?_ (.cons ?_ (.cons ?_ .nil))))
   ·refine Tw ?_;exact WA.go hA (hS1)
   ·refine Tw ?_;exact WA.go hA (hS4)
   ·(refine WO.autoM (k:=?_);intro gG);exact WA.go hA (hS32 gG)
  exact (hA _ _ _ _).2 (WA.less _ _ ((hA _ _ _ _).1 hS0))
 intro gG;refine (hA _ _ _ _).2 (WA.done ?_)
 repeat (first|refine Ta ?_|(refine Tm ?_;intro _)|refine WO.acallX (hc:=hSh) (hR:=fun w1 hm=>hwY.mod hm.mod) (k:=fun s _=>?_)|refine Tc ?_|exact Tz)
 generalize s 0=gL;clear s
 repeat (first|refine Tw ?_|(refine Tm ?_;intro _)|exact Tz)
 refine WC.adraw 10 (k:=?_)
 iterate 3 (refine DQ.auto (k:=?_))
 refine DQ.makes (vf:=fun _ g=>.slice (some ⟨g,0,none⟩) N.length N.length) (t:=24) (cs:=fun _=>mkz N.length (zb 0)) (fun s _=>zM (l:=N.length) (c:=N.length) rfl rfl (Nat.le_refl _) (by omega) (by omega)) Dp.const Dp.const ?_;refine DQ.auto (k:=?_);refine DQ.makes (vf:=fun _ g=>.slice (some ⟨g,0,none⟩) N.length N.length) (t:=24) (cs:=fun _=>mkz N.length (zb 0)) (fun s _=>zM (l:=N.length) (c:=N.length) rfl rfl (Nat.le_refl _) (by omega) (by omega)) Dp.const Dp.const ?_;refine DQ.auto (k:=?_);refine DQ.makes (vf:=fun _ g=>.slice (some ⟨g,0,none⟩) N.length N.length) (t:=44) (cs:=fun _=>mkz N.length (tI 0 0)) (fun s _=>zM (l:=N.length) (c:=N.length) rfl rfl (Nat.le_refl _) (by omega) (by omega)) Dp.const Dp.const ?_;refine DQ.auto (k:=?_);refine DQ.autoM (k:=?_);refine DQ.anil (k:=?_);intro sx _;generalize sx 3 0=gV;generalize sx 5 0=gY;generalize sx 7 0=gP;generalize sx 9 0=gE;clear sx
 repeat (first|refine Tw ?_|(refine Tm ?_;intro _)|exact Tz)
 refine WC.loopI (σ:=Nat) (fun i=>i≤N.length) (fun i=>[(1,.int .u64 (ep:Int)),(2,.int .u8 (d:Int)),(5,pt gS),(9,pt gX),(10,pt gD),(12,pt gG),(16,pt gE),(72,.slice (some ⟨gL,0,none⟩) N.length N.length),(73,.int .i64 (N.length:Int)),(74,.int .i64 (i:Int))])
  (fun i=>[⟨gV,24,VS p q g l N.length i⟩,⟨gY,24,YS p q N l N.length i⟩,⟨gP,44,PS p q g N ep d x l N.length i⟩,⟨gE,37,dlC ep d (.slice (some ⟨gV,0,none⟩) N.length N.length) (.slice (some ⟨gY,0,none⟩) N.length N.length) (.slice (some ⟨gP,0,none⟩) N.length N.length) 0 0⟩,
   ⟨gL,24,(shL q l N.length).flatMap zb⟩,⟨gG,26,vg p q g h⟩,⟨gX,24,zb x⟩,⟨gS,29,stC p q g h f sec (.slice (some ⟨b,o,none⟩) N.length c)⟩,⟨gD,37,dlC 0 0 (.slice none 0 0) (.slice none 0 0) (.slice none 0 0) 0 0⟩]) (fun i=>N.length - i) 0 (fun i hi=>?_) (Nat.zero_le _)
 try dsimp only at hi ⊢
 by_cases hli:i<N.length
 ·obtain⟨k2,hk2⟩ : ∃ k,N[i]?=some k:=⟨_,List.getElem?_eq_getElem hli⟩;have hkb:=hN k2 (List.mem_of_getElem? hk2);have hky:=bu hk2;have hadd2:IntKind.i64.wrap ((i:Int)+1)=((i+1:Nat):Int):=zn (by omega) (by omega) (by omega);have hcv:IntKind.u8.wrap ((i+1:Nat):Int)=((i+1:Nat):Int):=u8_in (by omega) (by omega);have hsb:shN q l i<zc:=Nat.lt_trans (abh hq0) hq;have hE1:=vo p q g h g (shN q l i) hg hsb hp;have hE2:=vo p q g h k2.2 (shN q l i) hkb.2 hsb hp;simp only[rE] at hE1 hE2;rw[show okV (yD p g) (g ^ shN q l i%p)=dV p q g l i from rfl] at hE1;rw[show okV (yD p k2.2) (k2.2 ^ shN q l i%p)=dY p q l N i by unfold dY exN;rw[hky]] at hE2;have hPd:dP p q g l N ep d x i=pfN p q g (shN q l i) k2.2 (yV q x (dH ep d (dV p q g l i) (dY p q l N i) i)):=by unfold dP;rw[hky]
  have hHlt:∀ b∈dH ep d (dV p q g l i) (dY p q l N i) i,b<256:=o6 _ _;have hHl:(dH ep d (dV p q g l i) (dY p q l N i) i).length=32:=uf _ _;have hDr:=bT p q g h x (dH ep d (dV p q g l i) (dY p q l N i) i) hx hq hq0 hHlt hHl;have hPr:=fH p q g h si (shN q l i) g k2.2 (yV q x (dH ep d (dV p q g l i) (dY p q l N i) i)) hp hq hsb hg hkb.2 (pH hq0 hq) (by decide);simp only[prV] at hPr
  rw[show okV (prB p q (shN q l i) g k2.2 (yV q x (dH ep d (dV p q g l i) (dY p q l N i) i))) (prC p q (zW si) (shN q l i) g k2.2 (yV q x (dH ep d (dV p q g l i) (dY p q l N i) i)))=(dP p q g l N ep d x i).1 by rw[hPd];rfl,
   show okV (prB p q (shN q l i) g k2.2 (yV q x (dH ep d (dV p q g l i) (dY p q l N i) i))) ((yV q x (dH ep d (dV p q g l i) (dY p q l N i) i)+shN q l i*prC p q (zW si) (shN q l i) g k2.2 (yV q x (dH ep d (dV p q g l i) (dY p q l N i) i))%q)%q)=(dP p q g l N ep d x i).2 by rw[hPd];rfl] at hPr
  have hoV:over (VS p q g l N.length i) (0+i*4) (zb (dV p q g l i))=VS p q g l N.length (i+1):=uK zH rfl hli;have hoY:over (YS p q N l N.length i) (0+i*4) (zb (dY p q l N i))=YS p q N l N.length (i+1):=uK zH rfl hli;have hoP:over (PS p q g N ep d x l N.length i) (0+i*8) (pfC (dP p q g l N ep d x i))=PS p q g N ep d x l N.length (i+1):=uK mi rfl hli;have hlV:Nat.ble (0+i*4+4) (VS p q g l N.length i).length=true:=tE zH rfl hli;have hlY:Nat.ble (0+i*4+4) (YS p q N l N.length i).length=true:=tE zH rfl hli;have hlP:Nat.ble (0+i*8+8) (PS p q g N ep d x l N.length i).length=true:=tE mi rfl hli;have hcV:cut (VS p q g l N.length (i+1)) (0+i*4) 4=zb (dV p q g l i):=o8 zH;have hcY:cut (YS p q N l N.length (i+1)) (0+i*4) 4=zb (dY p q l N i):=o8 zH;have hcL:cut ((shL q l N.length).flatMap zb) (0+i*4) 4=zb (shN q l i):=by rw[Nat.zero_add];exact zN zH (aaU hli)
  have hP0:=jB [] ep 8 0 none (by decide) (by decide);rw[List.nil_append,zh] at hP0;have hLo:=fun v g1=>lh [v] (some ⟨g1,0,none⟩) 1 (by simp) (by show 1≤8589934592;omega);have hb1:∀ v,[v].flatMap (be 32)=be 32 v:=fun v=>by simp
  simp only[hb1,zh] at hLo;have hO:=fun g1 c1 g2 g3 gR=>db si [.slice (some ⟨g1,0,none⟩) 10 c1,.slice (some ⟨g2,0,none⟩) 32 32,.slice (some ⟨g3,0,none⟩) 32 32] [abL ep d (i+1),be 32 (dV p q g l i),be 32 (dY p q l N i)] gR 0 3 (by
   intro X hX;simp only[List.mem_cons,List.not_mem_nil,or_false] at hX
   rcases hX with rfl|rfl|rfl
   ·exact bs
   ·exact ul
   ·exact ul) (by
   simp only[yM,uS,yT,List.flatMap_cons,List.flatMap_nil,List.length_append,zh,yv,List.length_nil,vy];decide) (by decide)
  rw[show hOf (zW si) [abL ep d (i+1),be 32 (dV p q g l i),be 32 (dY p q l N i)]=dH ep d (dV p q g l i) (dY p q l N i) i from rfl] at hO;have hHlen:(byC (dH ep d (dV p q g l i) (dY p q l N i) i)).length=32:=by rw[zf,hHl]
  clear hPd hHlt hHl hb1 hN;generalize yV q x (dH ep d (dV p q g l i) (dY p q l N i) i)=D at *;generalize dH ep d (dV p q g l i) (dY p q l N i) i=H at *;generalize dV p q g l i=v at *;generalize dY p q l N i=y at *;generalize dP p q g l N ep d x i=pf at *;generalize shN q l i=sh at *;generalize hV2:VS p q g l N.length (i+1)=V2 at *;generalize hY2:YS p q N l N.length (i+1)=Y2 at *;generalize hP2:PS p q g N ep d x l N.length (i+1)=P2 at *;generalize VS p q g l N.length i=V1 at *;generalize YS p q N l N.length i=Y1 at *;generalize PS p q g N ep d x l N.length i=P1 at *
  repeat (first|refine Tw ?_|(refine Tm ?_;intro _)|exact Tz)
  refine WC.dT rfl (by omega) ?_
  repeat (first|refine Ta ?_|(refine Tm ?_;intro _)|refine WO.does (za (o':=0+i*4) rfl rfl hli rfl) ?_|refine WO.does (zq (vs:=zb sh) (hc:=hcL)) ?_|refine WO.does (za (o':=o+i*8) rfl rfl hli rfl) ?_|refine WO.does (zk (vs:=zb k2.2) (hs:=hs) (hle:=by omega) (hc:=v8 hk2)) ?_|refine Tc ?_|exact Tz)
  rename_i g18 g19;refine WC.adrawF [10] 12 (k:=?_)
  repeat (first|refine Da ?_|refine DQ.acall (hc:=hE1) (k:=?_)|refine DQ.does (fun s _=>za (o':=0+i*4) rfl rfl hli rfl) Dp.const ?_|refine Df ?_)
  refine DQ.anil (k:=?_);intro sx _;refine WO.stores (zw (vs:=zb v) (cs':=V2) (hc:=hoV) (hle:=hlV)) ?_
  repeat (first|refine Tw ?_|(refine Tm ?_;intro _)|exact Tz)
  refine WC.adrawF [9] 11 (k:=?_)
  repeat (first|refine Da ?_|refine DQ.acall (hc:=hE2) (k:=?_)|refine DQ.does (fun s _=>za (o':=0+i*4) rfl rfl hli rfl) Dp.const ?_|refine Df ?_)
  refine DQ.anil (k:=?_);intro sx _;refine WO.stores (zw (vs:=zb y) (cs':=Y2) (hc:=hoY) (hle:=hlY)) ?_
  repeat (first|refine Tw ?_|(refine Tm ?_;intro _)|exact Tz)
  refine WC.adraw 25 (k:=?_);refine DQ.auto (k:=?_);refine DQ.acallS (hc:=hP0) (hR:=fun _=>Rd.nil) (k:=?_)
  iterate 2 (refine DQ.auto (k:=?_))
  refine DQ.does (fun s _=>zg rfl rfl hadd2) Dp.const ?_;refine DQ.does (fun s _=>zD rfl hcv) Dp.const ?_;refine DQ.makes (vf:=fun _ g=>.slice (some ⟨g,0,none⟩) 2 2) (t:=5) (cs:=fun _=>[.int .u8 (d:Int),.int .u8 ((i+1:Nat):Int)]) (fun s _=>zd rfl (by decide) rfl) Dp.const Dp.const ?_
  refine DQ.newsE (vf:=fun _ x=>.slice (some ⟨x 0,0,none⟩) 10 (x 1)) (Nf:=fun _ x=>[⟨x 0,5,byC (be 8 ep)++[.int .u8 (d:Int),.int .u8 ((i+1:Nat):Int)]++mkz (x 1 - 10) [.int .u8 0]⟩]) (S:=fun _ x=>10≤x 1∧x 1<9223372036854775808)
   (fun s=>[⟨s 6 0,5,[.int .u8 (d:Int),.int .u8 ((i+1:Nat):Int)]⟩,⟨s 1 0,5,byC (be 8 ep)⟩]) (fun s=>.cons 6 (.head _) (by decide +kernel) (.cons 1 (by repeat (first|exact .head _|apply List.Mem.tail)) (by decide +kernel) .nil)) (fun _=>⟨fun _=>10,by decide,by decide⟩)
   (fun s _=>ux (z:=[Value.int .u8 0]) (len:=8) (n:=2) rfl rfl (ys:=byC (be 8 ep)) (Rds.own (m:=8) (Hs.there Hs.here) (yw (by rw[zf,zh]))) (by rw[zf,zh];rfl) (xs:=[.int .u8 (d:Int),.int .u8 ((i+1:Nat):Int)]) (Rds.own (m:=2) Hs.here rfl) rfl (by decide) (by decide) (by decide) (by decide) rfl) Dp.const Dp.const Dp.const ?_
  try dsimp only[List.map_cons,List.map_nil,List.cons_append,List.nil_append]
  iterate 3 (refine DQ.auto (k:=?_))
  refine DQ.does (fun s _=>za (o':=0+i*4) rfl rfl hli rfl) Dp.const ?_;refine DQ.does (fun s _=>zq (vs:=zb v) (hc:=hcV)) Dp.const ?_;refine DQ.makes (vf:=fun _ g=>.slice (some ⟨g,0,none⟩) 1 1) (t:=24) (cs:=fun _=>zb v) (fun s _=>zd rfl (by decide) rfl) Dp.const Dp.const ?_;refine DQ.acallSE (vs:=fun s=>[.slice (some ⟨s 13 0,0,none⟩) 1 1]) (fun s=>[⟨s 13 0,24,zb v⟩]) (fun s=>.cons 13 (.head _) (by decide +kernel) .nil) (fun s _=>hLo v (s 13 0)) (fun s _ w hm=>RdF.seg (f:=zb) (xs:=[v]) (r:=[]) (Hs.seg Hs.here hm)) (fun s=>rfl) ?_
  iterate 3 (refine DQ.auto (k:=?_))
  refine DQ.does (fun s _=>za (o':=0+i*4) rfl rfl hli rfl) Dp.const ?_;refine DQ.does (fun s _=>zq (vs:=zb y) (hc:=hcY)) Dp.const ?_;refine DQ.makes (vf:=fun _ g=>.slice (some ⟨g,0,none⟩) 1 1) (t:=24) (cs:=fun _=>zb y) (fun s _=>zd rfl (by decide) rfl) Dp.const Dp.const ?_;refine DQ.acallSE (vs:=fun s=>[.slice (some ⟨s 20 0,0,none⟩) 1 1]) (fun s=>[⟨s 20 0,24,zb y⟩]) (fun s=>.cons 20 (.head _) (by decide +kernel) .nil) (fun s _=>hLo y (s 20 0)) (fun s _ w hm=>RdF.seg (f:=zb) (xs:=[y]) (r:=[]) (Hs.seg Hs.here hm)) (fun s=>rfl) ?_;refine DQ.makes (vf:=fun _ g=>.slice (some ⟨g,0,none⟩) 3 3) (t:=52) (cs:=fun s=>[.slice (some ⟨s 7 0,0,none⟩) 10 (s 7 1),.slice (some ⟨s 14 0,0,none⟩) 32 32,.slice (some ⟨s 21 0,0,none⟩) 32 32]) (fun s _=>zd rfl (by decide) rfl) Dp.const (by intro s s' h;dsimp only;rw[h,h,h]<;>decide +kernel) ?_
  refine DQ.callE (v:=fun _=>.agg (byC H).toArray) (fun s=>[⟨s 22 0,52,[.slice (some ⟨s 7 0,0,none⟩) 10 (s 7 1),.slice (some ⟨s 14 0,0,none⟩) 32 32,.slice (some ⟨s 21 0,0,none⟩) 32 32]⟩,⟨s 21 0,5,byC (be 32 y)⟩,⟨s 14 0,5,byC (be 32 v)⟩,⟨s 7 0,5,byC (be 8 ep)++[.int .u8 (d:Int),.int .u8 ((i+1:Nat):Int)]++mkz (s 7 1 - 10) [.int .u8 0]⟩])
   (fun s=>.cons 22 (.head _) (by decide +kernel) (.cons 21 (by repeat (first|exact .head _|apply List.Mem.tail)) (by decide +kernel) (.cons 14 (by repeat (first|exact .head _|apply List.Mem.tail)) (by decide +kernel) (.cons 7 (by repeat (first|exact .head _|apply List.Mem.tail)) (by decide +kernel) .nil)))) (fun s _=>hO (s 7 0) (s 7 1) (s 14 0) (s 21 0) (s 22 0)) (fun s=>rfl)
   (fun s hC w hm=>⟨Hs.seg Hs.here hm,zS.cons (by
     have hab:=RdP.own (g:=s 7 0) (c:=s 7 1) (X:=abL ep d (i+1)) (r:=mkz (s 7 1 - 10) [Value.int .u8 0]) (t:=5) hm (by rw[← oT hd (by omega)];exact Hs.there (Hs.there (Hs.there Hs.here))) (by rw[vy];exact hC.1.1.2.1) hC.1.1.2.2;rw[vy] at hab;exact hab) (zS.cons (by have:=RdP.own0 (g:=s 14 0) (c:=32) (X:=be 32 v) (t:=5) hm (Hs.there (Hs.there Hs.here)) (by rw[zh];decide) (by decide);rw[zh] at this;exact this) (zS.cons (by have:=RdP.own0 (g:=s 21 0) (c:=32) (X:=be 32 y) (t:=5) hm (Hs.there Hs.here) (by rw[zh];decide) (by decide);rw[zh] at this;exact this) zS.nil))⟩) Dp.const ?_
  refine DQ.autoM (k:=?_);refine DQ.anil (k:=?_);intro sx _;refine WO.stores (zw (vs:=byC H) (cs':=byC H) (hl:=hHlen) (h1:=vm _) (hc:=vN (by rw[hHlen];rfl)) (hle:=by rw[hHlen];rfl)) ?_;generalize sx 24 0=gH
  repeat (first|refine Tw ?_|(refine Tm ?_;intro _)|exact Tz)
  refine WC.adrawF [15] 17 (k:=?_)
  repeat (first|refine Da ?_|refine DQ.does (fun s _=>zq (vs:=byC H) (hc:=yw hHlen) (hl:=hHlen)) Dp.const ?_|refine DQ.acall (hc:=hDr) (k:=?_)|refine DQ.acall (hc:=hPr) (k:=?_)|refine DQ.does (fun s _=>za (o':=0+i*8) rfl rfl hli rfl) Dp.const ?_|refine Df ?_)
  refine DQ.anil (k:=?_);intro sx _;refine WO.stores (zw (vs:=pfC pf) (cs':=P2) (hc:=hoP) (hle:=hlP)) ?_
  repeat (first|refine Ta ?_|(refine Tm ?_;intro _)|refine WO.does (zg rfl rfl hadd2) ?_|refine Tc ?_|exact Tz)
  subst hV2 hY2 hP2;exact WX.metI (i+1) (hs:=⟨by show i+1≤N.length;omega,by show N.length - (i+1)<N.length - i;omega⟩)
 ·have hi2:i=N.length:=by omega
  subst hi2;have hVn:VS p q g l N.length N.length=(dVs p q g l N.length).flatMap zb:=by unfold VS dVs;rw[Nat.sub_self,show mkz 0 (zb 0)=[] from rfl,List.append_nil]
  have hYn:YS p q N l N.length N.length=(dYs p q l N N.length).flatMap zb:=by unfold YS dYs;rw[Nat.sub_self,show mkz 0 (zb 0)=[] from rfl,List.append_nil]
  have hPn:PS p q g N ep d x l N.length N.length=(dPs p q g l N ep d x N.length).flatMap pfC:=by unfold PS dPs;rw[Nat.sub_self,show mkz 0 (tI 0 0)=[] from rfl,List.append_nil]
  have hVl:(dVs p q g l N.length).length=N.length:=by simp[dVs]
  have hYl:(dYs p q l N N.length).length=N.length:=by simp[dYs]
  have hPl:(dPs p q g l N ep d x N.length).length=N.length:=by simp[dPs]
  have hne:∀ {α:Type} {xs:List α},xs.length=N.length→xs≠[]:=fun h e=>by rw[e] at h;simp at h;omega
  have hH:=fun gV gY gP=>aaa ep d 0 0 (some ⟨gV,0,none⟩) (some ⟨gY,0,none⟩) (some ⟨gP,0,none⟩) N.length N.length N.length (dVs p q g l N.length) (dYs p q l N N.length) (dPs p q g l N ep d x N.length) hd (hne hVl) (hne hYl) (hne hPl) (by omega) (by omega) (by omega);rw[hVl,hYl,hPl] at hH;rw[show kO ep d (dVs p q g l N.length) (dYs p q l N N.length) (dPs p q g l N ep d x N.length)=dHs p q g l N ep d x N.length from rfl] at hH;have hHlt:∀ b∈dHs p q g l N ep d x N.length,b<256:=o6 _ _;have hHl:(dHs p q g l N ep d x N.length).length=32:=uf _ _;have hDr:=bT p q g h x (dHs p q g l N ep d x N.length) hx hq hq0 hHlt hHl;have hSg:=abE p q g h x (yV q x (dHs p q g l N ep d x N.length)) (dHs p q g l N ep d x N.length) hp hq hg hx (pH hq0 hq) hHlt hHl;simp only[prV] at hSg
  rw[show okV (sgB p q g x (yV q x (dHs p q g l N ep d x N.length))) (sgC p q g x (yV q x (dHs p q g l N ep d x N.length)) (dHs p q g l N ep d x N.length))=(dSg p q g l N ep d x N.length).1 from rfl,
   show okV (sgB p q g x (yV q x (dHs p q g l N ep d x N.length))) ((yV q x (dHs p q g l N ep d x N.length)+x*sgC p q g x (yV q x (dHs p q g l N ep d x N.length)) (dHs p q g l N ep d x N.length)%q)%q)=(dSg p q g l N ep d x N.length).2 from rfl] at hSg
  have hHlen:(byC (dHs p q g l N ep d x N.length)).length=32:=by rw[zf,hHl]
  rw[hVn,hYn,hPn];clear hVn hYn hPn hHlt hHl hne hN;generalize yV q x (dHs p q g l N ep d x N.length)=D at *;generalize dHs p q g l N ep d x N.length=H at *;generalize dSg p q g l N ep d x N.length=sg at *;generalize dVs p q g l N.length=Vs at *;generalize dYs p q l N N.length=Ys at *;generalize dPs p q g l N ep d x N.length=Ps at *
  repeat (first|refine Tw ?_|(refine Tm ?_;intro _)|exact Tz)
  refine WC.dF rfl (by omega) ?_
  repeat (first|refine Ta ?_|(refine Tm ?_;intro _)|refine WO.acallR (hc:=hH gV gY gP) (hR:=fun w1 hm=>⟨by have:=RdF.seg (f:=zb) (xs:=Vs) (r:=[]) (c:=N.length) (Hs.seg (L:=_) (g:=gV) (t:=24) (by rw[List.append_nil];repeat (first|exact Hs.here|apply Hs.there)) hm);rw[hVl] at this;exact this,by have:=RdF.seg (f:=zb) (xs:=Ys) (r:=[]) (c:=N.length) (Hs.seg (L:=_) (g:=gY) (t:=24) (by rw[List.append_nil];repeat (first|exact Hs.here|apply Hs.there)) hm);rw[hYl] at this;exact this,by have:=RdF.seg (f:=pfC) (xs:=Ps) (r:=[]) (c:=N.length) (Hs.seg (L:=_) (g:=gP) (t:=44) (by rw[List.append_nil];repeat (first|exact Hs.here|apply Hs.there)) hm);rw[hPl] at this;exact this⟩) (k:=?_)|refine Tc ?_|exact Tz)
  refine WO.stores (zw (vs:=byC H) (cs':=byC H) (hl:=hHlen) (h1:=vm _) (hc:=vN (by rw[hHlen];rfl)) (hle:=by rw[hHlen];rfl)) ?_
  repeat (first|refine Tw ?_|(refine Tm ?_;intro _)|exact Tz)
  refine WC.adrawF [10] 12 (k:=?_)
  repeat (first|refine Da ?_|refine DQ.does (fun s _=>zq (vs:=byC H) (hc:=yw hHlen) (hl:=hHlen)) Dp.const ?_|refine DQ.acall (hc:=hDr) (k:=?_)|refine DQ.acall (hc:=hSg) (k:=?_)|refine Df ?_)
  refine DQ.anil (k:=?_);intro sx _
  repeat (first|refine Tw ?_|(refine Tm ?_;intro _)|exact Tz)
  exact WX.ret2 rfl (by exact yU) (by exact zr rfl) [⟨gP,44,Ps.flatMap pfC⟩,⟨gY,24,Ys.flatMap zb⟩,⟨gV,24,Vs.flatMap zb⟩] (by repeat (first|exact Lle.nil|refine Lle.c ?_)) ⟨fun i=>if i=0 then gV else if i=1 then gY else gP,rfl,rfl,trivial⟩
end
def osN (p q h:Nat) (l:List Nat) (i:Nat):Nat:=exN p h (scN q l i)
def osL (p q h:Nat) (l:List Nat) (n:Nat):List Nat:=(List.range n).map (osN p q h l)
def iz (p q g h:Nat) (f sec:Int) (N:List (Nat × Nat)) (l:List Nat):Bool:=vl p q g h f sec N && (decide ((l.length:Int)=f+sec) && uk q l)
abbrev r7:Value:=.tuple #[.slice none 0 0,.int .i64 1]
def oV (p q h:Nat) (l:List Nat) (n i:Nat):List Value:=(List.range n).flatMap fun k=>zb (if k<i then osN p q h l k else scN q l k)
theorem aX {p q h n:Nat} {l:List Nat}:oV p q h l n 0=(scL q l n).flatMap zb:=by
 unfold oV scL;rw[List.flatMap_map];exact vZ fun k _=>by rw[if_neg (Nat.not_lt_zero _)]
theorem aO {p q h n:Nat} {l:List Nat}:oV p q h l n n=(osL p q h l n).flatMap zb:=by
 unfold oV osL;rw[List.flatMap_map];exact vZ fun k hk=>by rw[if_pos (List.mem_range.1 hk)]
theorem pG {p q h n i:Nat} {l:List Nat} (hi:i<n) (j:Nat) (hj:j=i∨j=i+1):oV p q h l n j=((List.range i).flatMap fun k=>zb (osN p q h l k))++(zb (if i<j then osN p q h l i else scN q l i)++(List.range' (i+1) (n - (i+1))).flatMap fun k=>zb (scN q l k)):=by
 unfold oV;rw[range_split hi,List.flatMap_append,List.flatMap_cons];congr 1
 ·exact vZ fun k hk=>by rw[if_pos (by have:=List.mem_range.1 hk;omega)]
 ·congr 1;exact vZ fun k hk=>by rw[if_neg (by have:=(List.mem_range'_1.1 hk).1;omega)]
theorem abl {p q h n i:Nat} {l:List Nat} (hi:i<n):cut (oV p q h l n i) (0+i*4) 4=zb (scN q l i):=by
 have hl:((List.range i).flatMap fun k=>zb (osN p q h l k)).length=i*4:=by rw[zB (f:=fun k=>zb (osN p q h l k)) (k:=4) (fun _=>rfl),List.length_range]
 rw[pG hi i (.inl rfl),if_neg (Nat.lt_irrefl i),Nat.zero_add,← hl];unfold cut;rw[List.drop_left];rfl
theorem aD {p q h n i:Nat} {l:List Nat} (hi:i<n):over (oV p q h l n i) (0+i*4) (zb (osN p q h l i))=oV p q h l n (i+1):=by
 have hl:((List.range i).flatMap fun k=>zb (osN p q h l k)).length=i*4:=by rw[zB (f:=fun k=>zb (osN p q h l k)) (k:=4) (fun _=>rfl),List.length_range]
 rw[pG hi i (.inl rfl),pG hi (i+1) (.inr rfl),if_neg (Nat.lt_irrefl i),if_pos (Nat.lt_succ_self i),Nat.zero_add,← hl];rw[uP];simp[zb]
theorem abn {p q h n i:Nat} {l:List Nat}:(oV p q h l n i).length=n*4:=by
 unfold oV;rw[zB (f:=fun k=>zb (if k<i then osN p q h l k else scN q l k)) (k:=4) (fun _=>rfl),List.length_range]
theorem rG {p q g h:Nat} {f sec:Int} {N:List (Nat × Nat)} (hs:vl p q g h f sec N=true):sec≤3∧sec<(q:Int)∧sec≤f+1∧3*f+1≤(N.length:Int):=by
 unfold vl at hs;simp only[Bool.and_eq_true,decide_eq_true_eq] at hs;omega
section
variable (p q g h:Nat) (f:Int) (pt:Option Addr) (c:Nat) (N:List (Nat × Nat)) (pz:Option Addr) (cz:Nat) (l:List Nat)
theorem bf (m:Nat) (hp:p<zc) (hq:q<zc) (hg:g<zc) (hh:h<zc) (hN:yC N) (hNl:N.length≤100) (hl:∀ a∈l,a<zc) (hn:l.length≤100)
  (hf1 : -9223372036854775808≤f) (hf2:f≤9223372036854775807) (hs2:(m:Int)≤9223372036854775807) (hA:iz p q g h f (m:Int) N l=true) :
  Fn Tryz.prog 14 [stV p q g h f (m:Int) (.slice pt N.length c),.slice pz l.length cz] (fun w=>RdF y7 (.slice pt N.length c) N w∧RdF zb (.slice pz l.length cz) l w)
   (Ex (fun s=>.tuple #[.slice (some ⟨s 0,0,none⟩) m m,.int .i64 0]) (fun s=>[⟨s 0,24,(osL p q h l m).flatMap zb⟩]) (fun _=>True)):=by
 have hS:=yr p q g h f (m:Int) pt c N hp hq hg hh hN (by omega) hf1 hf2 (by omega) hs2;unfold iz at hA;rw[Bool.and_eq_true,Bool.and_eq_true,decide_eq_true_eq] at hA;obtain⟨e1,he,hall⟩:=hA;rw[e1] at hS;have hsp:=yo e1;have hadd:IntKind.i64.wrap (f+(m:Int))=f+(m:Int):=i64_in (by omega) (by omega);have hmo:=rG e1;have hm3:m≤3:=by omega
 have hSe:=gz p q g h l pz cz m hl (by omega) hq hall (by omega) hm3 (by omega);have hq0:0<q:=by omega
 clear e1;refine Fn.enter Tryz.func14 rfl rfl rfl ?_;intro w hw;obtain⟨hwK,hwY⟩:=hw
 repeat (first|refine Ta ?_|(refine Tm ?_;intro _)|refine WO.acallR (hc:=hS) (hR:=fun w hm=>(hwK.mod hm.mod).rdK) (k:=?_)|refine WO.does (zg rfl rfl hadd) ?_|refine WO.does (zu rfl rfl he) ?_|refine WO.acallX (hc:=hSe) (hR:=fun w hm=>hwY.mod hm.mod) (k:=fun s _=>?_)|refine Tc ?_|exact Tz)
 rename_i gS _;generalize s 0=gO;clear s
 repeat (first|refine Tw ?_|(refine Tm ?_;intro _)|exact Tz)
 refine WC.loopI (σ:=Nat) (fun i=>i≤m) (fun i=>[(2,Sx.pt gS),(6,.slice (some ⟨gO,0,none⟩) m m),(35,.slice (some ⟨gO,0,none⟩) m m),(36,.int .i64 (m:Int)),(37,.int .i64 (i:Int))]) (fun i=>[⟨gO,24,oV p q h l m i⟩,⟨gS,29,stC p q g h f (m:Int) (.slice pt N.length c)⟩]) (fun i=>m - i) 0 (fun i hi=>?_) (Nat.zero_le _) (hl:=by rw[aX];repeat (first|exact Lle.nil|refine Lle.c ?_))
 try dsimp only at hi ⊢
 by_cases hlt:i<m
 ·have hadd2:IntKind.i64.wrap ((i:Int)+1)=((i+1:Nat):Int):=zn (by omega) (by omega) (by omega);have hE:=vo p q g h h (scN q l i) hh (Nat.lt_trans (Nat.mod_lt _ hq0) hq) hp;simp only[rE] at hE;rw[show okV (yD p h) (h ^ scN q l i%p)=osN p q h l i from rfl] at hE;have hcu:=abl (p:=p) (q:=q) (h:=h) (l:=l) hlt;have hov:=aD (p:=p) (q:=q) (h:=h) (l:=l) hlt;have hln:Nat.ble (0+i*4+4) (oV p q h l m i).length=true:=by rw[abn,Nat.ble_eq];omega
  generalize hV2:oV p q h l m (i+1)=V2 at *;generalize oV p q h l m i=V1 at *;generalize scN q l i=s1 at *;generalize osN p q h l i=s2 at *
  repeat (first|refine Tw ?_|(refine Tm ?_;intro _)|exact Tz)
  refine WC.dT rfl (by omega) ?_
  repeat (first|refine Ta ?_|(refine Tm ?_;intro _)|refine WO.does (za (o':=0+i*4) rfl rfl hlt rfl) ?_|refine WO.does (zq (vs:=zb s1) (hc:=hcu)) ?_|refine WO.acall (hc:=hE) (k:=?_)|refine Tc ?_|exact Tz)
  refine WO.stores (zw (vs:=zb s2) (cs':=V2) (hc:=hov) (hle:=hln)) ?_
  repeat (first|refine Ta ?_|(refine Tm ?_;intro _)|refine WO.does (zg rfl rfl hadd2) ?_|refine Tc ?_|exact Tz)
  subst hV2;exact WX.metI (i+1) (hs:=⟨by show i+1≤m;omega,by show m - (i+1)<m - i;omega⟩)
 ·have hi2:i=m:=by omega
  subst hi2;rw[aO]
  repeat (first|refine Tw ?_|(refine Tm ?_;intro _)|exact Tz)
  refine WC.dF rfl (by omega) ?_
  repeat (first|refine Tw ?_|(refine Tm ?_;intro _)|exact Tz)
  exact WX.ret2 rfl (by exact zr rfl) (by exact zr rfl) [⟨gO,24,(osL p q h l i).flatMap zb⟩] (Lle.c Lle.nil) ⟨fun _=>gO,rfl,rfl,trivial⟩
end
end Sx
end
end Go.Proofs.YtbhblpnjhkddbaaGreat
