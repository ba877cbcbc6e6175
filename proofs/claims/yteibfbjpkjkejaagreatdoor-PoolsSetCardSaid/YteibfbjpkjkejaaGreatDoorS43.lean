/- Part 43 of the proof. -/
import Derived.Test.YteibfbjpkjkejaaGreatDoorS39
set_option linter.unusedSimpArgs false
set_option linter.unusedVariables false
set_option maxHeartbeats 8000000
namespace Go.Proofs.YteibfbjpkjkejaaGreatDoor
section
open Go Go.RowKit Go.BigFrame
namespace Sx
attribute [local irreducible] DQ DQS WC WO WX wd
theorem RdF.rdK {v:Value} {N:List (Nat × Nat)} {w:World} (h:RdF yw v N w):RdK v N w:=h
section
open Kp
variable {P:Program} {w0:World} {gs:List Nat} {n:Nat} {fl:List Nat} {Q:Exit→Act→World→Prop} {ops:List Oper} {L0:List Ent}
variable {tail rest:List Oper} {i:Nat} {C:zE→Prop} {K:zE→List (Nat × Value)} {N:zE→List (Nat × Ent)}
variable {d:Nat} {op:Op} {ty:TypeId} {pos:String} {after:Array Edge} {gd:Option (Nat × Bool)}
theorem DQ.acallSE {f:FuncId} [Cal P f] {xs:Array Operand} {ats:Array TypeId} {vs:zE→List Value} {Rq:zE→World→Prop} {t m:Nat} {cs:List Value} (E:zE→List Ent) (hE:∀ s,Vs ops i (N s) (E s)) (hc:∀ s,C s→Fn P f (vs s) (Rq s) (d9 t m cs)) (hR:∀ s,C s→∀ w,Mr w0 gs (E s++L0) w→Rq s w) (ha:∀ s,evs (K s) xs.toList=some (vs s))
  (k:DQ P w0 gs n fl Q ops L0 tail (i+1) rest (fun s=>C s∧True) (fun s=>(d,.slice (some ⟨s i 0,0,none⟩) m m)::K s) (fun s=>(i,⟨s i 0,t,cs⟩)::N s))
  (hfl:fl.contains i=false:=by rfl) (hw:∀ s,wk ops (K s) gd=some true:=by intro _;rfl) (hd:Nat.blt d n=true:=by rfl) :
  DQ P w0 gs n fl Q ops L0 tail i (⟨some d,.call { callee:=.value (.func f),args:=xs,argTypes:=ats },ty,pos,after,gd⟩::rest) C K N :=
 DQ.callsE (fs:=fun _=>[]) (cs:=fun _=>[]) (R:=Rq) (vf:=fun _ x=>.slice (some ⟨x 0,0,none⟩) m m) (Nf:=fun _ x=>[⟨x 0,t,cs⟩]) (S:=fun _ _=>True) E hE
  (fun _=>⟨fun _=>0,trivial⟩) (fun s hC=>Fn.weak (hc s hC) (fun _ h=>h) (fun v N ⟨g,e1,e2⟩=>⟨fun _=>g,e1,e2,trivial⟩)) (fun _=>rfl) ha (fun _=>by simp) hR Dp.const Dp.const Dp.const k hfl hw hd
end
section
variable {α:Type} {f:Nat→α} {F:α→List Value} {k:Nat} {z:List Value} {i n:Nat}
theorem nD (h:i<n):((List.range n).map f)[i]?=some (f i):=by simp[h]
theorem sH (hk:∀ x,(F x).length=k) (hz:z.length=k) (h:i<n):over (((List.range i).map f).flatMap F++mkz (n - i) z) (0+i*k) (F (f i))=((List.range (i+1)).map f).flatMap F++mkz (n - (i+1)) z:=by
 have htk:∀ j,j≤n→((List.range n).map f).take j=(List.range j).map f:=fun j hj=>by rw[← List.map_take,List.take_range,Nat.min_eq_left hj]
 have:=mh (f:=F) (z:=z) (m:=n - i) hk hz (nD (f:=f) h) (by omega);rw[htk i (by omega),htk (i+1) (by omega),hz,show n - i - 1=n - (i+1) by omega] at this;rw[Nat.zero_add];exact this
theorem rW (hk:∀ x,(F x).length=k) (hz:z.length=k) (h:i<n):Nat.ble (0+i*k+k) (((List.range i).map f).flatMap F++mkz (n - i) z).length=true:=by
 rw[Nat.ble_eq,List.length_append,zU hk,zS,List.length_map,List.length_range,hz,Nat.zero_add];have:1*k≤(n - i)*k:=Nat.mul_le_mul_right _ (by omega);omega
theorem nr {r:List Value} (hk:∀ x,(F x).length=k):cut (((List.range (i+1)).map f).flatMap F++r) (0+i*k) k=F (f i):=by
 rw[Nat.zero_add];exact eQ hk (nD (Nat.lt_succ_self i))
end
section
variable (p q g h:Nat) (f sec:Int) (pt:Option Addr) (c:Nat) (N:List (Nat × Nat)) (ep d x:Nat) (pz:Option Addr) (cz:Nat) (l:List Nat)
def VS (n i:Nat):List Value:=((List.range i).map (dV p q g l)).flatMap zc++mkz (n - i) (zc 0)
def YS (n i:Nat):List Value:=((List.range i).map (dY p q l N)).flatMap zc++mkz (n - i) (zc 0)
def PS (n i:Nat):List Value:=((List.range i).map (dP p q g l N ep d x)).flatMap pfC++mkz (n - i) (ui 0 0)
theorem aa0 (hp:p<zd) (hq:q<zd) (hg:g<zd) (hh:h<zd) (hN:yz N) (hNl:N.length≤100) (hl:∀ a∈l,a<zd) (hn:l.length≤100)
  (hf1 : -9223372036854775808≤f) (hf2:f≤9223372036854775807) (hs1 : -9223372036854775808≤sec) (hs2:sec≤9223372036854775807) (hd:d<256) (hx:x<zd) (hep:ep<18446744073709551616)
  (hA:iU p q g h f sec N d l x=true) :
  Fn Tryz.prog 22 [stV p q g h f sec (.slice pt N.length c),.int .u64 (ep:Int),.int .u8 (d:Int),.slice pz l.length cz,zj x] (fun w=>RdF yw (.slice pt N.length c) N w∧RdF zc (.slice pz l.length cz) l w)
   (Ex (fun s=>.tuple #[dlV ep d (.slice (some ⟨s 0,0,none⟩) N.length N.length) (.slice (some ⟨s 1,0,none⟩) N.length N.length) (.slice (some ⟨s 2,0,none⟩) N.length N.length) (dSg p q g l N ep d x N.length).1 (dSg p q g l N ep d x N.length).2,.int .i64 0])
    (fun s=>[⟨s 2,96,(dPs p q g l N ep d x N.length).flatMap pfC⟩,⟨s 1,24,(dYs p q l N N.length).flatMap zc⟩,⟨s 0,24,(dVs p q g l N.length).flatMap zc⟩]) (fun _=>True)):=by
 have hS:=tN p q g h f sec pt c N hp hq hg hh hN (by omega) hf1 hf2 hs1 hs2;have hNd:=aaq p q g h f sec pt c N d hd (by omega);unfold iU at hA;rw[Bool.and_eq_true,Bool.and_eq_true,Bool.and_eq_true] at hA;obtain⟨⟨⟨e1,e2⟩,e3⟩,e4⟩:=hA;rw[e1] at hS;rw[e2] at hNd;have hsp:=vK e1;have hP:=adE p q g h f sec (.slice pt N.length c) l pz cz hl (by omega) hq ⟨hsp.2.2.2.1,by omega,hsp.2.2.2.2.2.1⟩;rw[e3] at hP;have hall:sc q l=true:=by rw[Bool.and_eq_true] at e3;exact e3.2
 obtain⟨n1,n2⟩:=sK e2;have hlt:d - 1<N.length:=by omega
 obtain⟨k,hk⟩ : ∃ k,N[d - 1]?=some k:=⟨_,List.getElem?_eq_getElem hlt⟩;have hkb:=hN k (List.mem_of_getElem? hk);have hSec:=cE p q g h f sec (.slice pt N.length c) x k.1 hx hkb.1 hp hq hg;rw[acT hk] at e4;rw[e4] at hSec;have hsub:IntKind.u8.wrap ((d:Int) - 1)=((d - 1:Nat):Int):=qs (by omega) (by omega) (by omega);have hSh:=ad1 p q g h l pz cz N.length hl (by omega) hq hall hsp.1 hsp.2.1 hsp.2.2.1;have hn1:=hsp.1;have hn7:=hsp.2.1;have hq0:0<q:=by have:=hsp.2.2.1;omega
 clear e1 e2 e3 hsp hall n1 n2 hkb hf1 hf2 hs1 hs2 hn;refine Fn.enter Tryz.func22 rfl rfl rfl ?_;intro w hw;obtain⟨hwK,hwY⟩:=hw;obtain⟨b,o,rfl,_,hs⟩:=id hwK |>.get hk
 repeat (first|refine Tw ?_|(refine Tm ?_;intro _)|exact Tz)
 rename_i gS gX gD;refine WC.adraw 28 (k:=?_)
 iterate 28 (first|refine Da ?_|refine DQ.acallR (hc:=hS) (hR:=fun w hm=>(hwK.mod hm.mod).rdK) (k:=?_)|refine DQ.acall (hc:=hNd) (k:=?_)|refine DQ.acallR (hc:=hP) (hR:=fun w hm=>hwY.mod hm.mod) (k:=?_)|refine DQ.acall (hc:=hSec) (k:=?_)|refine DQ.does (fun s _=>zH rfl rfl hsub) Dp.const ?_|refine DQ.does (fun s _=>zb (i:=d - 1) (o':=o+(d - 1)*8) rfl rfl hlt rfl) Dp.const ?_|refine DQ.does (fun s _=>zn (vs:=zc k.1) (hs:=hs) (hle:=by omega) (hc:=km hk)) Dp.const ?_|refine Dc ?_)
 refine DQ.anil (k:=?_);intro sx _
 repeat (first|refine Tw ?_|(refine Tm ?_;intro _)|exact Tz)
 refine WC.allA (fun A hA=>?_)
 suffices hS255:∀ gG,A [(51,pt gS),(52,yo p q g h),(53,.pointer (some ⟨gS,18,none⟩)),(54,.slice (some ⟨b,o,none⟩) N.length c),(55,.int .i64 (N.length:Int)),(12,pt gG),(13,.int .i64 (N.length:Int)),(1,.int .u64 (ep:Int)),(2,.int .u8 (d:Int)),(3,.slice pz l.length cz),(5,pt gS),(9,pt gX),(10,pt gD),(11,.int .i64 0)] [⟨gG,26,zL p q g h⟩,⟨gD,50,dlC 0 0 (.slice none 0 0) (.slice none 0 0) (.slice none 0 0) 0 0⟩,⟨gX,24,zc x⟩,⟨gS,37,stC p q g h f sec (.slice (some ⟨b,o,none⟩) N.length c)⟩] (bt 8 255) 0 by
  have hS127:∀ gG,A [(51,pt gS),(52,yo p q g h),(53,.pointer (some ⟨gS,18,none⟩)),(54,.slice (some ⟨b,o,none⟩) N.length c),(55,.int .i64 (N.length:Int)),(12,pt gG),(1,.int .u64 (ep:Int)),(2,.int .u8 (d:Int)),(3,.slice pz l.length cz),(5,pt gS),(9,pt gX),(10,pt gD),(11,.int .i64 0)] [⟨gG,26,zL p q g h⟩,⟨gD,50,dlC 0 0 (.slice none 0 0) (.slice none 0 0) (.slice none 0 0) 0 0⟩,⟨gX,24,zc x⟩,⟨gS,37,stC p q g h f sec (.slice (some ⟨b,o,none⟩) N.length c)⟩] (bt 8 127) 1:=by
   intro gG;refine (hA _ _ _ _).2 (WA.step [7] (.cons ?_ .nil))
   ·refine Tw ?_;exact WA.go hA (hS255 gG)
  have hS63:∀ gG,A [(51,pt gS),(52,yo p q g h),(53,.pointer (some ⟨gS,18,none⟩)),(54,.slice (some ⟨b,o,none⟩) N.length c),(55,.int .i64 (N.length:Int)),(12,pt gG),(1,.int .u64 (ep:Int)),(2,.int .u8 (d:Int)),(3,.slice pz l.length cz),(5,pt gS),(9,pt gX),(10,pt gD),(11,.int .i64 0)] [⟨gG,26,zL 0 0 0 0⟩,⟨gD,50,dlC 0 0 (.slice none 0 0) (.slice none 0 0) (.slice none 0 0) 0 0⟩,⟨gX,24,zc x⟩,⟨gS,37,stC p q g h f sec (.slice (some ⟨b,o,none⟩) N.length c)⟩] (bt 8 63) 2:=by
   intro gG;refine (hA _ _ _ _).2 (WA.step [6] (.cons ?_ .nil))
   ·refine Tw ?_;exact WA.go hA (hS127 gG)
  have hS111:∀ gG,A [(51,pt gS),(52,yo p q g h),(53,.pointer (some ⟨gS,18,none⟩)),(54,.slice (some ⟨b,o,none⟩) N.length c),(12,pt gG),(1,.int .u64 (ep:Int)),(2,.int .u8 (d:Int)),(3,.slice pz l.length cz),(5,pt gS),(9,pt gX),(10,pt gD),(11,.int .i64 0)] [⟨gG,26,zL p q g h⟩,⟨gD,50,dlC 0 0 (.slice none 0 0) (.slice none 0 0) (.slice none 0 0) 0 0⟩,⟨gX,24,zc x⟩,⟨gS,37,stC p q g h f sec (.slice (some ⟨b,o,none⟩) N.length c)⟩] (bt 8 111) 2:=by
   intro gG;refine (hA _ _ _ _).2 (WA.step [4] (.cons ?_ .nil))
   ·refine Tw ?_;exact WA.go hA (hS127 gG)
  have hS31:A [(51,pt gS),(52,yo p q g h),(53,.pointer (some ⟨gS,18,none⟩)),(54,.slice (some ⟨b,o,none⟩) N.length c),(55,.int .i64 (N.length:Int)),(1,.int .u64 (ep:Int)),(2,.int .u8 (d:Int)),(3,.slice pz l.length cz),(5,pt gS),(9,pt gX),(10,pt gD),(11,.int .i64 0)] [⟨gD,50,dlC 0 0 (.slice none 0 0) (.slice none 0 0) (.slice none 0 0) 0 0⟩,⟨gX,24,zc x⟩,⟨gS,37,stC p q g h f sec (.slice (some ⟨b,o,none⟩) N.length c)⟩] (bt 8 31) 3:=by
   refine (hA _ _ _ _).2 (WA.step [5] (.cons ?_ .nil))
   ·(refine WO.autoM (k:=?_);intro gG);exact WA.go hA (hS63 gG)
  have hS47:∀ gG,A [(51,pt gS),(52,yo p q g h),(53,.pointer (some ⟨gS,18,none⟩)),(54,.slice (some ⟨b,o,none⟩) N.length c),(12,pt gG),(1,.int .u64 (ep:Int)),(2,.int .u8 (d:Int)),(3,.slice pz l.length cz),(5,pt gS),(9,pt gX),(10,pt gD),(11,.int .i64 0)] [⟨gG,26,zL 0 0 0 0⟩,⟨gD,50,dlC 0 0 (.slice none 0 0) (.slice none 0 0) (.slice none 0 0) 0 0⟩,⟨gX,24,zc x⟩,⟨gS,37,stC p q g h f sec (.slice (some ⟨b,o,none⟩) N.length c)⟩] (bt 8 47) 3:=by
   intro gG;refine (hA _ _ _ _).2 (WA.step [4,6] (.cons ?_ (.cons ?_ .nil)))
   ·refine Tw ?_;exact WA.go hA (hS63 gG)
   ·refine Tw ?_;exact WA.go hA (hS111 gG)
  have hS103:∀ gG,A [(51,pt gS),(52,yo p q g h),(53,.pointer (some ⟨gS,18,none⟩)),(12,pt gG),(1,.int .u64 (ep:Int)),(2,.int .u8 (d:Int)),(3,.slice pz l.length cz),(5,pt gS),(9,pt gX),(10,pt gD),(11,.int .i64 0)] [⟨gG,26,zL p q g h⟩,⟨gD,50,dlC 0 0 (.slice none 0 0) (.slice none 0 0) (.slice none 0 0) 0 0⟩,⟨gX,24,zc x⟩,⟨gS,37,stC p q g h f sec (.slice (some ⟨b,o,none⟩) N.length c)⟩] (bt 8 103) 3:=by
   intro gG;refine (hA _ _ _ _).2 (WA.step [3] (.cons ?_ .nil))
   ·refine Tw ?_;exact WA.go hA (hS111 gG)
  have hS61:∀ gG,A [(51,pt gS),(53,.pointer (some ⟨gS,18,none⟩)),(54,.slice (some ⟨b,o,none⟩) N.length c),(55,.int .i64 (N.length:Int)),(12,pt gG),(1,.int .u64 (ep:Int)),(2,.int .u8 (d:Int)),(3,.slice pz l.length cz),(5,pt gS),(9,pt gX),(10,pt gD),(11,.int .i64 0)] [⟨gG,26,zL 0 0 0 0⟩,⟨gD,50,dlC 0 0 (.slice none 0 0) (.slice none 0 0) (.slice none 0 0) 0 0⟩,⟨gX,24,zc x⟩,⟨gS,37,stC p q g h f sec (.slice (some ⟨b,o,none⟩) N.length c)⟩] (bt 8 61) 3:=by
   intro gG;refine (hA _ _ _ _).2 (WA.step [1] (.cons ?_ .nil))
   ·refine Tw ?_;exact WA.go hA (hS63 gG)
  have hS15:A [(51,pt gS),(52,yo p q g h),(53,.pointer (some ⟨gS,18,none⟩)),(54,.slice (some ⟨b,o,none⟩) N.length c),(1,.int .u64 (ep:Int)),(2,.int .u8 (d:Int)),(3,.slice pz l.length cz),(5,pt gS),(9,pt gX),(10,pt gD),(11,.int .i64 0)] [⟨gD,50,dlC 0 0 (.slice none 0 0) (.slice none 0 0) (.slice none 0 0) 0 0⟩,⟨gX,24,zc x⟩,⟨gS,37,stC p q g h f sec (.slice (some ⟨b,o,none⟩) N.length c)⟩] (bt 8 15) 4:=by
   refine (hA _ _ _ _).2 (WA.step [4,5] (.cons ?_ (.cons ?_ .nil)))
   ·refine Tw ?_;exact WA.go hA (hS31)
   ·(refine WO.autoM (k:=?_);intro gG);exact WA.go hA (hS47 gG)
  have hS39:∀ gG,A [(51,pt gS),(52,yo p q g h),(53,.pointer (some ⟨gS,18,none⟩)),(12,pt gG),(1,.int .u64 (ep:Int)),(2,.int .u8 (d:Int)),(3,.slice pz l.length cz),(5,pt gS),(9,pt gX),(10,pt gD),(11,.int .i64 0)] [⟨gG,26,zL 0 0 0 0⟩,⟨gD,50,dlC 0 0 (.slice none 0 0) (.slice none 0 0) (.slice none 0 0) 0 0⟩,⟨gX,24,zc x⟩,⟨gS,37,stC p q g h f sec (.slice (some ⟨b,o,none⟩) N.length c)⟩] (bt 8 39) 4:=by
   intro gG;refine (hA _ _ _ _).2 (WA.step [3,6] (.cons ?_ (.cons ?_ .nil)))
   ·refine Tw ?_;exact WA.go hA (hS47 gG)
   ·refine Tw ?_;exact WA.go hA (hS103 gG)
  have hS99:∀ gG,A [(51,pt gS),(52,yo p q g h),(12,pt gG),(1,.int .u64 (ep:Int)),(2,.int .u8 (d:Int)),(3,.slice pz l.length cz),(5,pt gS),(9,pt gX),(10,pt gD),(11,.int .i64 0)] [⟨gG,26,zL p q g h⟩,⟨gD,50,dlC 0 0 (.slice none 0 0) (.slice none 0 0) (.slice none 0 0) 0 0⟩,⟨gX,24,zc x⟩,⟨gS,37,stC p q g h f sec (.slice (some ⟨b,o,none⟩) N.length c)⟩] (bt 8 99) 4:=by
   intro gG;refine (hA _ _ _ _).2 (WA.step [2] (.cons ?_ .nil))
   ·refine Tw ?_;exact WA.go hA (hS103 gG)
  have hS29:A [(51,pt gS),(53,.pointer (some ⟨gS,18,none⟩)),(54,.slice (some ⟨b,o,none⟩) N.length c),(55,.int .i64 (N.length:Int)),(1,.int .u64 (ep:Int)),(2,.int .u8 (d:Int)),(3,.slice pz l.length cz),(5,pt gS),(9,pt gX),(10,pt gD),(11,.int .i64 0)] [⟨gD,50,dlC 0 0 (.slice none 0 0) (.slice none 0 0) (.slice none 0 0) 0 0⟩,⟨gX,24,zc x⟩,⟨gS,37,stC p q g h f sec (.slice (some ⟨b,o,none⟩) N.length c)⟩] (bt 8 29) 4:=by
   refine (hA _ _ _ _).2 (WA.step [1,5] (.cons ?_ (.cons ?_ .nil)))
   ·refine Tw ?_;exact WA.go hA (hS31)
   ·(refine WO.autoM (k:=?_);intro gG);exact WA.go hA (hS61 gG)
  have hS45:∀ gG,A [(51,pt gS),(53,.pointer (some ⟨gS,18,none⟩)),(54,.slice (some ⟨b,o,none⟩) N.length c),(12,pt gG),(1,.int .u64 (ep:Int)),(2,.int .u8 (d:Int)),(3,.slice pz l.length cz),(5,pt gS),(9,pt gX),(10,pt gD),(11,.int .i64 0)] [⟨gG,26,zL 0 0 0 0⟩,⟨gD,50,dlC 0 0 (.slice none 0 0) (.slice none 0 0) (.slice none 0 0) 0 0⟩,⟨gX,24,zc x⟩,⟨gS,37,stC p q g h f sec (.slice (some ⟨b,o,none⟩) N.length c)⟩] (bt 8 45) 4:=by
   intro gG;refine (hA _ _ _ _).2 (WA.step [1,4] (.cons ?_ (.cons ?_ .nil)))
   ·refine Tw ?_;exact WA.go hA (hS47 gG)
   ·refine Tw ?_;exact WA.go hA (hS61 gG)
  have hS60:∀ gG,A [(53,.pointer (some ⟨gS,18,none⟩)),(54,.slice (some ⟨b,o,none⟩) N.length c),(55,.int .i64 (N.length:Int)),(12,pt gG),(1,.int .u64 (ep:Int)),(2,.int .u8 (d:Int)),(3,.slice pz l.length cz),(5,pt gS),(9,pt gX),(10,pt gD),(11,.int .i64 0)] [⟨gG,26,zL 0 0 0 0⟩,⟨gD,50,dlC 0 0 (.slice none 0 0) (.slice none 0 0) (.slice none 0 0) 0 0⟩,⟨gX,24,zc x⟩,⟨gS,37,stC p q g h f sec (.slice (some ⟨b,o,none⟩) N.length c)⟩] (bt 8 60) 4:=by
   intro gG;refine (hA _ _ _ _).2 (WA.step [0] (.cons ?_ .nil))
   ·refine Tw ?_;exact WA.go hA (hS61 gG)
  have hS7:A [(51,pt gS),(52,yo p q g h),(53,.pointer (some ⟨gS,18,none⟩)),(1,.int .u64 (ep:Int)),(2,.int .u8 (d:Int)),(3,.slice pz l.length cz),(5,pt gS),(9,pt gX),(10,pt gD),(11,.int .i64 0)] [⟨gD,50,dlC 0 0 (.slice none 0 0) (.slice none 0 0) (.slice none 0 0) 0 0⟩,⟨gX,24,zc x⟩,⟨gS,37,stC p q g h f sec (.slice (some ⟨b,o,none⟩) N.length c)⟩] (bt 8 7) 5:=by
   refine (hA _ _ _ _).2 (WA.step [3,5] (.cons ?_ (.cons ?_ .nil)))
   ·refine Tw ?_;exact WA.go hA (hS15)
   ·(refine WO.autoM (k:=?_);intro gG);exact WA.go hA (hS39 gG)
  have hS35:∀ gG,A [(51,pt gS),(52,yo p q g h),(12,pt gG),(1,.int .u64 (ep:Int)),(2,.int .u8 (d:Int)),(3,.slice pz l.length cz),(5,pt gS),(9,pt gX),(10,pt gD),(11,.int .i64 0)] [⟨gG,26,zL 0 0 0 0⟩,⟨gD,50,dlC 0 0 (.slice none 0 0) (.slice none 0 0) (.slice none 0 0) 0 0⟩,⟨gX,24,zc x⟩,⟨gS,37,stC p q g h f sec (.slice (some ⟨b,o,none⟩) N.length c)⟩] (bt 8 35) 5:=by
   intro gG;refine (hA _ _ _ _).2 (WA.step [2,6] (.cons ?_ (.cons ?_ .nil)))
   ·refine Tw ?_;exact WA.go hA (hS39 gG)
   ·refine Tw ?_;exact WA.go hA (hS99 gG)
  have hS13:A [(51,pt gS),(53,.pointer (some ⟨gS,18,none⟩)),(54,.slice (some ⟨b,o,none⟩) N.length c),(1,.int .u64 (ep:Int)),(2,.int .u8 (d:Int)),(3,.slice pz l.length cz),(5,pt gS),(9,pt gX),(10,pt gD),(11,.int .i64 0)] [⟨gD,50,dlC 0 0 (.slice none 0 0) (.slice none 0 0) (.slice none 0 0) 0 0⟩,⟨gX,24,zc x⟩,⟨gS,37,stC p q g h f sec (.slice (some ⟨b,o,none⟩) N.length c)⟩] (bt 8 13) 5:=by
   refine (hA _ _ _ _).2 (WA.step [1,4,5] (.cons ?_ (.cons ?_ (.cons ?_ .nil))))
   ·refine Tw ?_;exact WA.go hA (hS15)
   ·refine Tw ?_;exact WA.go hA (hS29)
   ·(refine WO.autoM (k:=?_);intro gG);exact WA.go hA (hS45 gG)
  have hS37:∀ gG,A [(51,pt gS),(53,.pointer (some ⟨gS,18,none⟩)),(12,pt gG),(1,.int .u64 (ep:Int)),(2,.int .u8 (d:Int)),(3,.slice pz l.length cz),(5,pt gS),(9,pt gX),(10,pt gD),(11,.int .i64 0)] [⟨gG,26,zL 0 0 0 0⟩,⟨gD,50,dlC 0 0 (.slice none 0 0) (.slice none 0 0) (.slice none 0 0) 0 0⟩,⟨gX,24,zc x⟩,⟨gS,37,stC p q g h f sec (.slice (some ⟨b,o,none⟩) N.length c)⟩] (bt 8 37) 5:=by
   intro gG;refine (hA _ _ _ _).2 (WA.step [1,3] (.cons ?_ (.cons ?_ .nil)))
   ·refine Tw ?_;exact WA.go hA (hS39 gG)
   ·refine Tw ?_;exact WA.go hA (hS45 gG)
  have hS28:A [(53,.pointer (some ⟨gS,18,none⟩)),(54,.slice (some ⟨b,o,none⟩) N.length c),(55,.int .i64 (N.length:Int)),(1,.int .u64 (ep:Int)),(2,.int .u8 (d:Int)),(3,.slice pz l.length cz),(5,pt gS),(9,pt gX),(10,pt gD),(11,.int .i64 0)] [⟨gD,50,dlC 0 0 (.slice none 0 0) (.slice none 0 0) (.slice none 0 0) 0 0⟩,⟨gX,24,zc x⟩,⟨gS,37,stC p q g h f sec (.slice (some ⟨b,o,none⟩) N.length c)⟩] (bt 8 28) 5:=by
   refine (hA _ _ _ _).2 (WA.step [0,5] (.cons ?_ (.cons ?_ .nil)))
   ·refine Tw ?_;exact WA.go hA (hS29)
   ·(refine WO.autoM (k:=?_);intro gG);exact WA.go hA (hS60 gG)
  have hS44:∀ gG,A [(53,.pointer (some ⟨gS,18,none⟩)),(54,.slice (some ⟨b,o,none⟩) N.length c),(12,pt gG),(1,.int .u64 (ep:Int)),(2,.int .u8 (d:Int)),(3,.slice pz l.length cz),(5,pt gS),(9,pt gX),(10,pt gD),(11,.int .i64 0)] [⟨gG,26,zL 0 0 0 0⟩,⟨gD,50,dlC 0 0 (.slice none 0 0) (.slice none 0 0) (.slice none 0 0) 0 0⟩,⟨gX,24,zc x⟩,⟨gS,37,stC p q g h f sec (.slice (some ⟨b,o,none⟩) N.length c)⟩] (bt 8 44) 5:=by
   intro gG;refine (hA _ _ _ _).2 (WA.step [0,4] (.cons ?_ (.cons ?_ .nil)))
   ·refine Tw ?_;exact WA.go hA (hS45 gG)
   ·refine Tw ?_;exact WA.go hA (hS60 gG)
  have hS3:A [(51,pt gS),(52,yo p q g h),(1,.int .u64 (ep:Int)),(2,.int .u8 (d:Int)),(3,.slice pz l.length cz),(5,pt gS),(9,pt gX),(10,pt gD),(11,.int .i64 0)] [⟨gD,50,dlC 0 0 (.slice none 0 0) (.slice none 0 0) (.slice none 0 0) 0 0⟩,⟨gX,24,zc x⟩,⟨gS,37,stC p q g h f sec (.slice (some ⟨b,o,none⟩) N.length c)⟩] (bt 8 3) 6:=by
   refine (hA _ _ _ _).2 (WA.step [2,5] (.cons ?_ (.cons ?_ .nil)))
   ·refine Tw ?_;exact WA.go hA (hS7)
   ·(refine WO.autoM (k:=?_);intro gG);exact WA.go hA (hS35 gG)
  have hS5:A [(51,pt gS),(53,.pointer (some ⟨gS,18,none⟩)),(1,.int .u64 (ep:Int)),(2,.int .u8 (d:Int)),(3,.slice pz l.length cz),(5,pt gS),(9,pt gX),(10,pt gD),(11,.int .i64 0)] [⟨gD,50,dlC 0 0 (.slice none 0 0) (.slice none 0 0) (.slice none 0 0) 0 0⟩,⟨gX,24,zc x⟩,⟨gS,37,stC p q g h f sec (.slice (some ⟨b,o,none⟩) N.length c)⟩] (bt 8 5) 6:=by
   refine (hA _ _ _ _).2 (WA.step [1,3,5] (.cons ?_ (.cons ?_ (.cons ?_ .nil))))
   ·refine Tw ?_;exact WA.go hA (hS7)
   ·refine Tw ?_;exact WA.go hA (hS13)
   ·(refine WO.autoM (k:=?_);intro gG);exact WA.go hA (hS37 gG)
  have hS33:∀ gG,A [(51,pt gS),(12,pt gG),(1,.int .u64 (ep:Int)),(2,.int .u8 (d:Int)),(3,.slice pz l.length cz),(5,pt gS),(9,pt gX),(10,pt gD),(11,.int .i64 0)] [⟨gG,26,zL 0 0 0 0⟩,⟨gD,50,dlC 0 0 (.slice none 0 0) (.slice none 0 0) (.slice none 0 0) 0 0⟩,⟨gX,24,zc x⟩,⟨gS,37,stC p q g h f sec (.slice (some ⟨b,o,none⟩) N.length c)⟩] (bt 8 33) 6:=by
   intro gG;refine (hA _ _ _ _).2 (WA.step [1,2] (.cons ?_ (.cons ?_ .nil)))
   ·refine Tw ?_;exact WA.go hA (hS35 gG)
   ·refine Tw ?_;exact WA.go hA (hS37 gG)
  have hS12:A [(53,.pointer (some ⟨gS,18,none⟩)),(54,.slice (some ⟨b,o,none⟩) N.length c),(1,.int .u64 (ep:Int)),(2,.int .u8 (d:Int)),(3,.slice pz l.length cz),(5,pt gS),(9,pt gX),(10,pt gD),(11,.int .i64 0)] [⟨gD,50,dlC 0 0 (.slice none 0 0) (.slice none 0 0) (.slice none 0 0) 0 0⟩,⟨gX,24,zc x⟩,⟨gS,37,stC p q g h f sec (.slice (some ⟨b,o,none⟩) N.length c)⟩] (bt 8 12) 6:=by
   refine (hA _ _ _ _).2 (WA.step [0,4,5] (.cons ?_ (.cons ?_ (.cons ?_ .nil))))
   ·refine Tw ?_;exact WA.go hA (hS13)
   ·refine Tw ?_;exact WA.go hA (hS28)
   ·(refine WO.autoM (k:=?_);intro gG);exact WA.go hA (hS44 gG)
  have hS36:∀ gG,A [(53,.pointer (some ⟨gS,18,none⟩)),(12,pt gG),(1,.int .u64 (ep:Int)),(2,.int .u8 (d:Int)),(3,.slice pz l.length cz),(5,pt gS),(9,pt gX),(10,pt gD),(11,.int .i64 0)] [⟨gG,26,zL 0 0 0 0⟩,⟨gD,50,dlC 0 0 (.slice none 0 0) (.slice none 0 0) (.slice none 0 0) 0 0⟩,⟨gX,24,zc x⟩,⟨gS,37,stC p q g h f sec (.slice (some ⟨b,o,none⟩) N.length c)⟩] (bt 8 36) 6:=by
   intro gG;refine (hA _ _ _ _).2 (WA.step [0,3] (.cons ?_ (.cons ?_ .nil)))
   ·refine Tw ?_;exact WA.go hA (hS37 gG)
   ·refine Tw ?_;exact WA.go hA (hS44 gG)
  have hS1:A [(51,pt gS),(1,.int .u64 (ep:Int)),(2,.int .u8 (d:Int)),(3,.slice pz l.length cz),(5,pt gS),(9,pt gX),(10,pt gD),(11,.int .i64 0)] [⟨gD,50,dlC 0 0 (.slice none 0 0) (.slice none 0 0) (.slice none 0 0) 0 0⟩,⟨gX,24,zc x⟩,⟨gS,37,stC p q g h f sec (.slice (some ⟨b,o,none⟩) N.length c)⟩] (bt 8 1) 7:=by
   refine (hA _ _ _ _).2 (WA.step [1,2,5] (.cons ?_ (.cons ?_ (.cons ?_ .nil))))
   ·refine Tw ?_;exact WA.go hA (hS3)
   ·refine Tw ?_;exact WA.go hA (hS5)
   ·(refine WO.autoM (k:=?_);intro gG);exact WA.go hA (hS33 gG)
  have hS4:A [(53,.pointer (some ⟨gS,18,none⟩)),(1,.int .u64 (ep:Int)),(2,.int .u8 (d:Int)),(3,.slice pz l.length cz),(5,pt gS),(9,pt gX),(10,pt gD),(11,.int .i64 0)] [⟨gD,50,dlC 0 0 (.slice none 0 0) (.slice none 0 0) (.slice none 0 0) 0 0⟩,⟨gX,24,zc x⟩,⟨gS,37,stC p q g h f sec (.slice (some ⟨b,o,none⟩) N.length c)⟩] (bt 8 4) 7:=by
   refine (hA _ _ _ _).2 (WA.step [0,3,5] (.cons ?_ (.cons ?_ (.cons ?_ .nil))))
   ·refine Tw ?_;exact WA.go hA (hS5)
   ·refine Tw ?_;exact WA.go hA (hS12)
   ·(refine WO.autoM (k:=?_);intro gG);exact WA.go hA (hS36 gG)
  have hS32:∀ gG,A [(12,pt gG),(1,.int .u64 (ep:Int)),(2,.int .u8 (d:Int)),(3,.slice pz l.length cz),(5,pt gS),(9,pt gX),(10,pt gD),(11,.int .i64 0)] [⟨gG,26,zL 0 0 0 0⟩,⟨gD,50,dlC 0 0 (.slice none 0 0) (.slice none 0 0) (.slice none 0 0) 0 0⟩,⟨gX,24,zc x⟩,⟨gS,37,stC p q g h f sec (.slice (some ⟨b,o,none⟩) N.length c)⟩] (bt 8 32) 7:=by
   intro gG;refine (hA _ _ _ _).2 (WA.step [0,2] (.cons ?_ (.cons ?_ .nil)))
   ·refine Tw ?_;exact WA.go hA (hS33 gG)
   ·refine Tw ?_;exact WA.go hA (hS36 gG)
  have hS0:A [(1,.int .u64 (ep:Int)),(2,.int .u8 (d:Int)),(3,.slice pz l.length cz),(5,pt gS),(9,pt gX),(10,pt gD),(11,.int .i64 0)] [⟨gD,50,dlC 0 0 (.slice none 0 0) (.slice none 0 0) (.slice none 0 0) 0 0⟩,⟨gX,24,zc x⟩,⟨gS,37,stC p q g h f sec (.slice (some ⟨b,o,none⟩) N.length c)⟩] (bt 8 0) 8:=by
   refine (hA _ _ _ _).2 (WA.step [0,2,5] (.cons ?_ (.cons ?_ (.cons ?_ .nil))))
   ·refine Tw ?_;exact WA.go hA (hS1)
   ·refine Tw ?_;exact WA.go hA (hS4)
   ·(refine WO.autoM (k:=?_);intro gG);exact WA.go hA (hS32 gG)
  exact (hA _ _ _ _).2 (WA.less _ _ ((hA _ _ _ _).1 hS0))
 intro gG;refine (hA _ _ _ _).2 (WA.done ?_)
 repeat (first|refine Ta ?_|(refine Tm ?_;intro _)|refine WO.acallX (hc:=hSh) (hR:=fun w1 hm=>hwY.mod hm.mod) (k:=fun s _=>?_)|refine Tc ?_|exact Tz)
 generalize s 0=gL;clear s
 repeat (first|refine Tw ?_|(refine Tm ?_;intro _)|exact Tz)
 refine WC.adraw 10 (k:=?_)
 iterate 3 (refine DQ.auto (k:=?_))
 refine DQ.makes (vf:=fun _ g=>.slice (some ⟨g,0,none⟩) N.length N.length) (t:=24) (cs:=fun _=>mkz N.length (zc 0)) (fun s _=>yg (l:=N.length) (c:=N.length) rfl rfl (Nat.le_refl _) (by omega) (by omega)) Dp.const Dp.const ?_;refine DQ.auto (k:=?_);refine DQ.makes (vf:=fun _ g=>.slice (some ⟨g,0,none⟩) N.length N.length) (t:=24) (cs:=fun _=>mkz N.length (zc 0)) (fun s _=>yg (l:=N.length) (c:=N.length) rfl rfl (Nat.le_refl _) (by omega) (by omega)) Dp.const Dp.const ?_;refine DQ.auto (k:=?_);refine DQ.makes (vf:=fun _ g=>.slice (some ⟨g,0,none⟩) N.length N.length) (t:=96) (cs:=fun _=>mkz N.length (ui 0 0)) (fun s _=>yg (l:=N.length) (c:=N.length) rfl rfl (Nat.le_refl _) (by omega) (by omega)) Dp.const Dp.const ?_;refine DQ.auto (k:=?_);refine DQ.autoM (k:=?_);refine DQ.anil (k:=?_);intro sx _;generalize sx 3 0=gV;generalize sx 5 0=gY;generalize sx 7 0=gP;generalize sx 9 0=gE;clear sx
 repeat (first|refine Tw ?_|(refine Tm ?_;intro _)|exact Tz)
 refine WC.loopI (σ:=Nat) (fun i=>i≤N.length) (fun i=>[(1,.int .u64 (ep:Int)),(2,.int .u8 (d:Int)),(5,pt gS),(9,pt gX),(10,pt gD),(12,pt gG),(16,pt gE),(72,.slice (some ⟨gL,0,none⟩) N.length N.length),(73,.int .i64 (N.length:Int)),(74,.int .i64 (i:Int))])
  (fun i=>[⟨gV,24,VS p q g l N.length i⟩,⟨gY,24,YS p q N l N.length i⟩,⟨gP,96,PS p q g N ep d x l N.length i⟩,⟨gE,50,dlC ep d (.slice (some ⟨gV,0,none⟩) N.length N.length) (.slice (some ⟨gY,0,none⟩) N.length N.length) (.slice (some ⟨gP,0,none⟩) N.length N.length) 0 0⟩,
   ⟨gL,24,(shL q l N.length).flatMap zc⟩,⟨gG,26,zL p q g h⟩,⟨gX,24,zc x⟩,⟨gS,37,stC p q g h f sec (.slice (some ⟨b,o,none⟩) N.length c)⟩,⟨gD,50,dlC 0 0 (.slice none 0 0) (.slice none 0 0) (.slice none 0 0) 0 0⟩]) (fun i=>N.length - i) 0 (fun i hi=>?_) (Nat.zero_le _)
 try dsimp only at hi ⊢
 by_cases hli:i<N.length
 ·obtain⟨k2,hk2⟩ : ∃ k,N[i]?=some k:=⟨_,List.getElem?_eq_getElem hli⟩;have hkb:=hN k2 (List.mem_of_getElem? hk2);have hky:=ad0 hk2;have hadd2:IntKind.i64.wrap ((i:Int)+1)=((i+1:Nat):Int):=zr (by omega) (by omega) (by omega);have hcv:IntKind.u8.wrap ((i+1:Nat):Int)=((i+1:Nat):Int):=u8_in (by omega) (by omega);have hsb:shN q l i<zd:=Nat.lt_trans (adC hq0) hq;have hE1:=ud p q g h g (shN q l i) hg hsb hp;have hE2:=ud p q g h k2.2 (shN q l i) hkb.2 hsb hp;simp only[rE] at hE1 hE2;rw[show okV (yB p g) (g ^ shN q l i%p)=dV p q g l i from rfl] at hE1;rw[show okV (yB p k2.2) (k2.2 ^ shN q l i%p)=dY p q l N i by unfold dY exN;rw[hky]] at hE2;have hPd:dP p q g l N ep d x i=pfN p q g (shN q l i) k2.2 (vp q x (dH ep d (dV p q g l i) (dY p q l N i) i)):=by unfold dP;rw[hky]
  have hHlt:∀ b∈dH ep d (dV p q g l i) (dY p q l N i) i,b<256:=pM _ _;have hHl:(dH ep d (dV p q g l i) (dY p q l N i) i).length=32:=vh _ _;have hDr:=aaQ p q g h x (dH ep d (dV p q g l i) (dY p q l N i) i) hx hq hq0 hHlt hHl;have hPr:=acH p q g h uF (shN q l i) g k2.2 (vp q x (dH ep d (dV p q g l i) (dY p q l N i) i)) hp hq hsb hg hkb.2 (jt hq0 hq) (by decide);simp only[prV] at hPr
  rw[show okV (prB p q (shN q l i) g k2.2 (vp q x (dH ep d (dV p q g l i) (dY p q l N i) i))) (prC p q (yj uF) (shN q l i) g k2.2 (vp q x (dH ep d (dV p q g l i) (dY p q l N i) i)))=(dP p q g l N ep d x i).1 by rw[hPd];rfl,
   show okV (prB p q (shN q l i) g k2.2 (vp q x (dH ep d (dV p q g l i) (dY p q l N i) i))) ((vp q x (dH ep d (dV p q g l i) (dY p q l N i) i)+shN q l i*prC p q (yj uF) (shN q l i) g k2.2 (vp q x (dH ep d (dV p q g l i) (dY p q l N i) i))%q)%q)=(dP p q g l N ep d x i).2 by rw[hPd];rfl] at hPr
  have hoV:over (VS p q g l N.length i) (0+i*4) (zc (dV p q g l i))=VS p q g l N.length (i+1):=sH ym rfl hli;have hoY:over (YS p q N l N.length i) (0+i*4) (zc (dY p q l N i))=YS p q N l N.length (i+1):=sH ym rfl hli;have hoP:over (PS p q g N ep d x l N.length i) (0+i*8) (pfC (dP p q g l N ep d x i))=PS p q g N ep d x l N.length (i+1):=sH r9 rfl hli;have hlV:Nat.ble (0+i*4+4) (VS p q g l N.length i).length=true:=rW ym rfl hli;have hlY:Nat.ble (0+i*4+4) (YS p q N l N.length i).length=true:=rW ym rfl hli;have hlP:Nat.ble (0+i*8+8) (PS p q g N ep d x l N.length i).length=true:=rW r9 rfl hli;have hcV:cut (VS p q g l N.length (i+1)) (0+i*4) 4=zc (dV p q g l i):=nr ym;have hcY:cut (YS p q N l N.length (i+1)) (0+i*4) 4=zc (dY p q l N i):=nr ym;have hcL:cut ((shL q l N.length).flatMap zc) (0+i*4) 4=zc (shN q l i):=by rw[Nat.zero_add];exact zX ym (acE hli)
  have hP0:=ij [] ep 8 0 none (by decide) (by decide);rw[List.nil_append,zk] at hP0;have hLo:=fun v g1=>pE [v] (some ⟨g1,0,none⟩) 1 (by simp) (by show 1≤8589934592;omega);have hb1:∀ v,[v].flatMap (be 32)=be 32 v:=fun v=>by simp
  simp only[hb1,zk] at hLo;have hO:=fun g1 c1 g2 g3 gR=>aB uF [.slice (some ⟨g1,0,none⟩) 10 c1,.slice (some ⟨g2,0,none⟩) 32 32,.slice (some ⟨g3,0,none⟩) 32 32] [abL ep d (i+1),be 32 (dV p q g l i),be 32 (dY p q l N i)] gR 0 3 (by
   intro X hX;simp only[List.mem_cons,List.not_mem_nil,or_false] at hX
   rcases hX with rfl|rfl|rfl
   ·exact adP
   ·exact tn
   ·exact tn) (by
   simp only[yS,tw,yW,List.flatMap_cons,List.flatMap_nil,List.length_append,zk,yM,List.length_nil,sE];decide) (by decide)
  rw[show hOf (yj uF) [abL ep d (i+1),be 32 (dV p q g l i),be 32 (dY p q l N i)]=dH ep d (dV p q g l i) (dY p q l N i) i from rfl] at hO;have hHlen:(byC (dH ep d (dV p q g l i) (dY p q l N i) i)).length=32:=by rw[zh,hHl]
  clear hPd hHlt hHl hb1 hN;generalize vp q x (dH ep d (dV p q g l i) (dY p q l N i) i)=D at *;generalize dH ep d (dV p q g l i) (dY p q l N i) i=H at *;generalize dV p q g l i=v at *;generalize dY p q l N i=y at *;generalize dP p q g l N ep d x i=pf at *;generalize shN q l i=sh at *;generalize hV2:VS p q g l N.length (i+1)=V2 at *;generalize hY2:YS p q N l N.length (i+1)=Y2 at *;generalize hP2:PS p q g N ep d x l N.length (i+1)=P2 at *;generalize VS p q g l N.length i=V1 at *;generalize YS p q N l N.length i=Y1 at *;generalize PS p q g N ep d x l N.length i=P1 at *
  repeat (first|refine Tw ?_|(refine Tm ?_;intro _)|exact Tz)
  refine WC.dT rfl (by omega) ?_
  repeat (first|refine Ta ?_|(refine Tm ?_;intro _)|refine WO.does (zb (o':=0+i*4) rfl rfl hli rfl) ?_|refine WO.does (zy (vs:=zc sh) (hc:=hcL)) ?_|refine WO.does (zb (o':=o+i*8) rfl rfl hli rfl) ?_|refine WO.does (zn (vs:=zc k2.2) (hs:=hs) (hle:=by omega) (hc:=bH hk2)) ?_|refine Tc ?_|exact Tz)
  rename_i g18 g19;refine WC.adrawF [10] 12 (k:=?_)
  repeat (first|refine Da ?_|refine DQ.acall (hc:=hE1) (k:=?_)|refine DQ.does (fun s _=>zb (o':=0+i*4) rfl rfl hli rfl) Dp.const ?_|refine Df ?_)
  refine DQ.anil (k:=?_);intro sx _;refine WO.stores (zC (vs:=zc v) (cs':=V2) (hc:=hoV) (hle:=hlV)) ?_
  repeat (first|refine Tw ?_|(refine Tm ?_;intro _)|exact Tz)
  refine WC.adrawF [9] 11 (k:=?_)
  repeat (first|refine Da ?_|refine DQ.acall (hc:=hE2) (k:=?_)|refine DQ.does (fun s _=>zb (o':=0+i*4) rfl rfl hli rfl) Dp.const ?_|refine Df ?_)
  refine DQ.anil (k:=?_);intro sx _;refine WO.stores (zC (vs:=zc y) (cs':=Y2) (hc:=hoY) (hle:=hlY)) ?_
  repeat (first|refine Tw ?_|(refine Tm ?_;intro _)|exact Tz)
  refine WC.adraw 25 (k:=?_);refine DQ.auto (k:=?_);refine DQ.acallS (hc:=hP0) (hR:=fun _=>Rd.nil) (k:=?_)
  iterate 2 (refine DQ.auto (k:=?_))
  refine DQ.does (fun s _=>zl rfl rfl hadd2) Dp.const ?_;refine DQ.does (fun s _=>zN rfl hcv) Dp.const ?_;refine DQ.makes (vf:=fun _ g=>.slice (some ⟨g,0,none⟩) 2 2) (t:=5) (cs:=fun _=>[.int .u8 (d:Int),.int .u8 ((i+1:Nat):Int)]) (fun s _=>ze rfl (by decide) rfl) Dp.const Dp.const ?_
  refine DQ.newsE (vf:=fun _ x=>.slice (some ⟨x 0,0,none⟩) 10 (x 1)) (Nf:=fun _ x=>[⟨x 0,5,byC (be 8 ep)++[.int .u8 (d:Int),.int .u8 ((i+1:Nat):Int)]++mkz (x 1 - 10) [.int .u8 0]⟩]) (S:=fun _ x=>10≤x 1∧x 1<9223372036854775808)
   (fun s=>[⟨s 6 0,5,[.int .u8 (d:Int),.int .u8 ((i+1:Nat):Int)]⟩,⟨s 1 0,5,byC (be 8 ep)⟩]) (fun s=>.cons 6 (.head _) (by decide +kernel) (.cons 1 (by repeat (first|exact .head _|apply List.Mem.tail)) (by decide +kernel) .nil)) (fun _=>⟨fun _=>10,by decide,by decide⟩)
   (fun s _=>uO (z:=[Value.int .u8 0]) (len:=8) (n:=2) rfl rfl (ys:=byC (be 8 ep)) (Rds.own (m:=8) (Hs.there Hs.here) (zz (by rw[zh,zk]))) (by rw[zh,zk];rfl) (xs:=[.int .u8 (d:Int),.int .u8 ((i+1:Nat):Int)]) (Rds.own (m:=2) Hs.here rfl) rfl (by decide) (by decide) (by decide) (by decide) rfl) Dp.const Dp.const Dp.const ?_
  try dsimp only[List.map_cons,List.map_nil,List.cons_append,List.nil_append]
  iterate 3 (refine DQ.auto (k:=?_))
  refine DQ.does (fun s _=>zb (o':=0+i*4) rfl rfl hli rfl) Dp.const ?_;refine DQ.does (fun s _=>zy (vs:=zc v) (hc:=hcV)) Dp.const ?_;refine DQ.makes (vf:=fun _ g=>.slice (some ⟨g,0,none⟩) 1 1) (t:=24) (cs:=fun _=>zc v) (fun s _=>ze rfl (by decide) rfl) Dp.const Dp.const ?_;refine DQ.acallSE (vs:=fun s=>[.slice (some ⟨s 13 0,0,none⟩) 1 1]) (fun s=>[⟨s 13 0,24,zc v⟩]) (fun s=>.cons 13 (.head _) (by decide +kernel) .nil) (fun s _=>hLo v (s 13 0)) (fun s _ w hm=>RdF.seg (f:=zc) (xs:=[v]) (r:=[]) (Hs.seg Hs.here hm)) (fun s=>rfl) ?_
  iterate 3 (refine DQ.auto (k:=?_))
  refine DQ.does (fun s _=>zb (o':=0+i*4) rfl rfl hli rfl) Dp.const ?_;refine DQ.does (fun s _=>zy (vs:=zc y) (hc:=hcY)) Dp.const ?_;refine DQ.makes (vf:=fun _ g=>.slice (some ⟨g,0,none⟩) 1 1) (t:=24) (cs:=fun _=>zc y) (fun s _=>ze rfl (by decide) rfl) Dp.const Dp.const ?_;refine DQ.acallSE (vs:=fun s=>[.slice (some ⟨s 20 0,0,none⟩) 1 1]) (fun s=>[⟨s 20 0,24,zc y⟩]) (fun s=>.cons 20 (.head _) (by decide +kernel) .nil) (fun s _=>hLo y (s 20 0)) (fun s _ w hm=>RdF.seg (f:=zc) (xs:=[y]) (r:=[]) (Hs.seg Hs.here hm)) (fun s=>rfl) ?_;refine DQ.makes (vf:=fun _ g=>.slice (some ⟨g,0,none⟩) 3 3) (t:=95) (cs:=fun s=>[.slice (some ⟨s 7 0,0,none⟩) 10 (s 7 1),.slice (some ⟨s 14 0,0,none⟩) 32 32,.slice (some ⟨s 21 0,0,none⟩) 32 32]) (fun s _=>ze rfl (by decide) rfl) Dp.const (by intro s s' h;dsimp only;rw[h,h,h]<;>decide +kernel) ?_
  refine DQ.callE (v:=fun _=>.agg (byC H).toArray) (fun s=>[⟨s 22 0,95,[.slice (some ⟨s 7 0,0,none⟩) 10 (s 7 1),.slice (some ⟨s 14 0,0,none⟩) 32 32,.slice (some ⟨s 21 0,0,none⟩) 32 32]⟩,⟨s 21 0,5,byC (be 32 y)⟩,⟨s 14 0,5,byC (be 32 v)⟩,⟨s 7 0,5,byC (be 8 ep)++[.int .u8 (d:Int),.int .u8 ((i+1:Nat):Int)]++mkz (s 7 1 - 10) [.int .u8 0]⟩])
   (fun s=>.cons 22 (.head _) (by decide +kernel) (.cons 21 (by repeat (first|exact .head _|apply List.Mem.tail)) (by decide +kernel) (.cons 14 (by repeat (first|exact .head _|apply List.Mem.tail)) (by decide +kernel) (.cons 7 (by repeat (first|exact .head _|apply List.Mem.tail)) (by decide +kernel) .nil)))) (fun s _=>hO (s 7 0) (s 7 1) (s 14 0) (s 21 0) (s 22 0)) (fun s=>rfl)
   (fun s hC w hm=>⟨Hs.seg Hs.here hm,ya.cons (by
     have hab:=RdP.own (g:=s 7 0) (c:=s 7 1) (X:=abL ep d (i+1)) (r:=mkz (s 7 1 - 10) [Value.int .u8 0]) (t:=5) hm (by rw[← fD hd (by omega)];exact Hs.there (Hs.there (Hs.there Hs.here))) (by rw[sE];exact hC.1.1.2.1) hC.1.1.2.2;rw[sE] at hab;exact hab) (ya.cons (by have:=RdP.own0 (g:=s 14 0) (c:=32) (X:=be 32 v) (t:=5) hm (Hs.there (Hs.there Hs.here)) (by rw[zk];decide) (by decide);rw[zk] at this;exact this) (ya.cons (by have:=RdP.own0 (g:=s 21 0) (c:=32) (X:=be 32 y) (t:=5) hm (Hs.there Hs.here) (by rw[zk];decide) (by decide);rw[zk] at this;exact this) ya.nil))⟩) Dp.const ?_
  refine DQ.autoM (k:=?_);refine DQ.anil (k:=?_);intro sx _;refine WO.stores (zC (vs:=byC H) (cs':=byC H) (hl:=hHlen) (h1:=zM _) (hc:=z7 (by rw[hHlen];rfl)) (hle:=by rw[hHlen];rfl)) ?_;generalize sx 24 0=gH
  repeat (first|refine Tw ?_|(refine Tm ?_;intro _)|exact Tz)
  refine WC.adrawF [15] 17 (k:=?_)
  repeat (first|refine Da ?_|refine DQ.does (fun s _=>zy (vs:=byC H) (hc:=zz hHlen) (hl:=hHlen)) Dp.const ?_|refine DQ.acall (hc:=hDr) (k:=?_)|refine DQ.acall (hc:=hPr) (k:=?_)|refine DQ.does (fun s _=>zb (o':=0+i*8) rfl rfl hli rfl) Dp.const ?_|refine Df ?_)
  refine DQ.anil (k:=?_);intro sx _;refine WO.stores (zC (vs:=pfC pf) (cs':=P2) (hc:=hoP) (hle:=hlP)) ?_
  repeat (first|refine Ta ?_|(refine Tm ?_;intro _)|refine WO.does (zl rfl rfl hadd2) ?_|refine Tc ?_|exact Tz)
  subst hV2 hY2 hP2;exact WX.metI (i+1) (hs:=⟨by show i+1≤N.length;omega,by show N.length - (i+1)<N.length - i;omega⟩)
 ·have hi2:i=N.length:=by omega
  subst hi2;have hVn:VS p q g l N.length N.length=(dVs p q g l N.length).flatMap zc:=by unfold VS dVs;rw[Nat.sub_self,show mkz 0 (zc 0)=[] from rfl,List.append_nil]
  have hYn:YS p q N l N.length N.length=(dYs p q l N N.length).flatMap zc:=by unfold YS dYs;rw[Nat.sub_self,show mkz 0 (zc 0)=[] from rfl,List.append_nil]
  have hPn:PS p q g N ep d x l N.length N.length=(dPs p q g l N ep d x N.length).flatMap pfC:=by unfold PS dPs;rw[Nat.sub_self,show mkz 0 (ui 0 0)=[] from rfl,List.append_nil]
  have hVl:(dVs p q g l N.length).length=N.length:=by simp[dVs]
  have hYl:(dYs p q l N N.length).length=N.length:=by simp[dYs]
  have hPl:(dPs p q g l N ep d x N.length).length=N.length:=by simp[dPs]
  have hne:∀ {α:Type} {xs:List α},xs.length=N.length→xs≠[]:=fun h e=>by rw[e] at h;simp at h;omega
  have hH:=fun gV gY gP=>kb ep d 0 0 (some ⟨gV,0,none⟩) (some ⟨gY,0,none⟩) (some ⟨gP,0,none⟩) N.length N.length N.length (dVs p q g l N.length) (dYs p q l N N.length) (dPs p q g l N ep d x N.length) hd (hne hVl) (hne hYl) (hne hPl) (by omega) (by omega) (by omega);rw[hVl,hYl,hPl] at hH;rw[show yX ep d (dVs p q g l N.length) (dYs p q l N N.length) (dPs p q g l N ep d x N.length)=dHs p q g l N ep d x N.length from rfl] at hH;have hHlt:∀ b∈dHs p q g l N ep d x N.length,b<256:=pM _ _;have hHl:(dHs p q g l N ep d x N.length).length=32:=vh _ _;have hDr:=aaQ p q g h x (dHs p q g l N ep d x N.length) hx hq hq0 hHlt hHl;have hSg:=ads p q g h x (vp q x (dHs p q g l N ep d x N.length)) (dHs p q g l N ep d x N.length) hp hq hg hx (jt hq0 hq) hHlt hHl;simp only[prV] at hSg
  rw[show okV (sgB p q g x (vp q x (dHs p q g l N ep d x N.length))) (sgC p q g x (vp q x (dHs p q g l N ep d x N.length)) (dHs p q g l N ep d x N.length))=(dSg p q g l N ep d x N.length).1 from rfl,
   show okV (sgB p q g x (vp q x (dHs p q g l N ep d x N.length))) ((vp q x (dHs p q g l N ep d x N.length)+x*sgC p q g x (vp q x (dHs p q g l N ep d x N.length)) (dHs p q g l N ep d x N.length)%q)%q)=(dSg p q g l N ep d x N.length).2 from rfl] at hSg
  have hHlen:(byC (dHs p q g l N ep d x N.length)).length=32:=by rw[zh,hHl]
  rw[hVn,hYn,hPn];clear hVn hYn hPn hHlt hHl hne hN;generalize vp q x (dHs p q g l N ep d x N.length)=D at *;generalize dHs p q g l N ep d x N.length=H at *;generalize dSg p q g l N ep d x N.length=sg at *;generalize dVs p q g l N.length=Vs at *;generalize dYs p q l N N.length=Ys at *;generalize dPs p q g l N ep d x N.length=Ps at *
  repeat (first|refine Tw ?_|(refine Tm ?_;intro _)|exact Tz)
  refine WC.dF rfl (by omega) ?_
  repeat (first|refine Ta ?_|(refine Tm ?_;intro _)|refine WO.acallR (hc:=hH gV gY gP) (hR:=fun w1 hm=>⟨by have:=RdF.seg (f:=zc) (xs:=Vs) (r:=[]) (c:=N.length) (Hs.seg (L:=_) (g:=gV) (t:=24) (by rw[List.append_nil];repeat (first|exact Hs.here|apply Hs.there)) hm);rw[hVl] at this;exact this,by have:=RdF.seg (f:=zc) (xs:=Ys) (r:=[]) (c:=N.length) (Hs.seg (L:=_) (g:=gY) (t:=24) (by rw[List.append_nil];repeat (first|exact Hs.here|apply Hs.there)) hm);rw[hYl] at this;exact this,by have:=RdF.seg (f:=pfC) (xs:=Ps) (r:=[]) (c:=N.length) (Hs.seg (L:=_) (g:=gP) (t:=96) (by rw[List.append_nil];repeat (first|exact Hs.here|apply Hs.there)) hm);rw[hPl] at this;exact this⟩) (k:=?_)|refine Tc ?_|exact Tz)
  refine WO.stores (zC (vs:=byC H) (cs':=byC H) (hl:=hHlen) (h1:=zM _) (hc:=z7 (by rw[hHlen];rfl)) (hle:=by rw[hHlen];rfl)) ?_
  repeat (first|refine Tw ?_|(refine Tm ?_;intro _)|exact Tz)
  refine WC.adrawF [10] 12 (k:=?_)
  repeat (first|refine Da ?_|refine DQ.does (fun s _=>zy (vs:=byC H) (hc:=zz hHlen) (hl:=hHlen)) Dp.const ?_|refine DQ.acall (hc:=hDr) (k:=?_)|refine DQ.acall (hc:=hSg) (k:=?_)|refine Df ?_)
  refine DQ.anil (k:=?_);intro sx _
  repeat (first|refine Tw ?_|(refine Tm ?_;intro _)|exact Tz)
  exact WX.ret2 rfl (by exact uC) (by exact zt rfl) [⟨gP,96,Ps.flatMap pfC⟩,⟨gY,24,Ys.flatMap zc⟩,⟨gV,24,Vs.flatMap zc⟩] (by repeat (first|exact Lle.nil|refine Lle.c ?_)) ⟨fun i=>if i=0 then gV else if i=1 then gY else gP,rfl,rfl,trivial⟩
end
end Sx
end
end Go.Proofs.YteibfbjpkjkejaaGreatDoor
