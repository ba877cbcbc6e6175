/- Part 36 of the proof. -/
import Derived.Test.YtiaibpcaloigkaaGreatDoorG31
set_option linter.unusedSimpArgs false
set_option linter.unusedVariables false
set_option maxHeartbeats 8000000
namespace Go.Proofs.YtiaibpcaloigkaaGreatDoor
section
open Go Go.RowKit Go.BigFrame
namespace Sx
attribute [local irreducible] DQ WC WO WX wd
theorem RdF.rdK {v:Value} {N:LP} {w:World} (h:RdF ya v N w):RdK v N w:=h
end Sx
end
section
open Go Go.RowKit Go.BigFrame
namespace Sx
attribute [local irreducible] DQ WC WO WT WX wd
section
open Kp
variable {P:Program} {w0:World} {gs:LN} {n:Nat} {fl:LN} {Q:Exit→Act→World→Prop} {ops:List Oper} {L0:List Ent}
variable {tail rest:List Oper} {i:Nat} {C:zT→Prop} {K:zT→List (Nat × Value)} {N:zT→List (Nat × Ent)}
variable {d:Nat} {op:Op} {ty:TypeId} {pos:String} {after:Array Edge} {gd:Option (Nat × Bool)}
theorem DQ.acallSE {f:FuncId} [Cal P f] {xs:Array Operand} {ats:Array TypeId} {vs:zT→List Value} {Rq:zT→World→Prop} {t m:Nat} {cs:LV} (E:zT→List Ent) (hE:∀ s,Vs ops i (N s) (E s)) (hc:∀ s,C s→Fn P f (vs s) (Rq s) (az t m cs)) (hR:∀ s,C s→∀ w,Mr w0 gs (E s++L0) w→Rq s w) (ha:∀ s,evs (K s) xs.toList=some (vs s))
  (k:DQ P w0 gs n fl Q ops L0 tail (i+1) rest (fun s=>C s∧True) (fun s=>(d,AQ (s i 0) m m)::K s) (fun s=>(i,⟨s i 0,t,cs⟩)::N s))
  (hfl:fl.contains i=false:=by rfl) (hw:∀ s,wk ops (K s) gd=some true:=by intro _;rfl) (hd:Nat.blt d n=true:=by rfl) :
  DQ P w0 gs n fl Q ops L0 tail i (⟨some d,.call { callee:=.value (.func f),args:=xs,argTypes:=ats },ty,pos,after,gd⟩::rest) C K N :=
 DQ.callsE (fs:=fun _=>[]) (cs:=fun _=>[]) (R:=Rq) (vf:=fun _ x=>AQ (x 0) m m) (Nf:=fun _ x=>[⟨x 0,t,cs⟩]) (S:=fun _ _=>True) E hE
  (fun _=>⟨fun _=>0,trivial⟩) (fun s hC=>Fn.weak (hc s hC) (fun _ h=>h) (fun v N ⟨g,e1,e2⟩=>⟨fun _=>g,e1,e2,trivial⟩)) (fun _=>rfl) ha (fun _=>by simp) hR Dp.const Dp.const Dp.const k hfl hw hd
end
section
variable {α:Type} {f:Nat→α} {F:α→List Value} {k:Nat} {z:LV} {i n:Nat}
theorem mh (h:i<n):((List.range n).map f)[i]?=some (f i):=by simp[h]
theorem sy (hk:∀ x,(F x).length=k) (hz:z.length=k) (h:i<n):over (((List.range i).map f).flatMap F++mkz (n - i) z) (0+i*k) (F (f i))=((List.range (i+1)).map f).flatMap F++mkz (n - (i+1)) z:=by
 have htk:∀ j,j≤n→((List.range n).map f).take j=(List.range j).map f:=fun j hj=>by rw[← List.map_take,List.take_range,Nat.min_eq_left hj]
 have:=mj (f:=F) (z:=z) (m:=n - i) hk hz (mh (f:=f) h) Om;rw[htk i Om,htk (i+1) Om,hz,show n - i - 1=n - (i+1) by omega] at this;rw[Nat.zero_add];exact this
theorem ru (hk:∀ x,(F x).length=k) (hz:z.length=k) (h:i<n):Nat.ble (0+i*k+k) (((List.range i).map f).flatMap F++mkz (n - i) z).length=true:=by
 rw[Nat.ble_eq,List.length_append,zF hk,zV,List.length_map,List.length_range,hz,Nat.zero_add];have:1*k≤(n - i)*k:=Nat.mul_le_mul_right _ Om;omega
theorem mL {r:LV} (hk:∀ x,(F x).length=k):cut (((List.range (i+1)).map f).flatMap F++r) (0+i*k) k=F (f i):=by
 rw[Nat.zero_add];exact eX hk (mh (Nat.lt_succ_self i))
end
section
variable (p q g h:Nat) (f sec:Int) (pt:Option Addr) (c:Nat) (N:LP) (ep d x:Nat) (pz:Option Addr) (cz:Nat) (l:LN)
def VS (n i:Nat):List Value:=((List.range i).map (dV p q g l)).flatMap zc++mkz (n - i) (zc 0)
def YS (n i:Nat):List Value:=((List.range i).map (dY p q l N)).flatMap zc++mkz (n - i) (zc 0)
def PS (n i:Nat):List Value:=((List.range i).map (dP p q g l N ep d x)).flatMap pfC++mkz (n - i) (vC 0 0)
theorem acY (hp:p<ze) (hq:q<ze) (hg:g<ze) (hh:h<ze) (hN:zZ N) (hNl:N.length≤100) (hl:∀ a∈l,a<ze) (hn:l.length≤100)
  (hf1 : -9223372036854775808≤f) (hf2:f≤9223372036854775807) (hs1 : -9223372036854775808≤sec) (hs2:sec≤9223372036854775807) (hd:d<256) (hx:x<ze) (hep:ep<18446744073709551616)
  (hA:gm p q g h f sec N d l x=true) :
  Fn Tryz.prog 70 [stV p q g h f sec (.slice pt N.length c),.int .u64 (ep:Int),.int .u8 (d:Int),.slice pz l.length cz,zk x] (fun w=>RdF ya (.slice pt N.length c) N w∧RdF zc (.slice pz l.length cz) l w)
   (Ex (fun s=>.tuple #[dlV ep d (AQ (s 0) N.length N.length) (AQ (s 1) N.length N.length) (AQ (s 2) N.length N.length) (dSg p q g l N ep d x N.length).1 (dSg p q g l N ep d x N.length).2,.int .i64 0])
    (fun s=>[⟨s 2,117,(dPs p q g l N ep d x N.length).flatMap pfC⟩,⟨s 1,24,(dYs p q l N N.length).flatMap zc⟩,⟨s 0,24,(dVs p q g l N.length).flatMap zc⟩]) (fun _=>True)):=by
 have hS:=yh p q g h f sec pt c N hp hq hg hh hN Om hf1 hf2 hs1 hs2;have hNd:=acB p q g h f sec pt c N d hd Om;unfold gm at hA;rw[Bool.and_eq_true,Bool.and_eq_true,Bool.and_eq_true] at hA;obtain⟨⟨⟨e1,e2⟩,e3⟩,e4⟩:=hA;rw[e1] at hS;rw[e2] at hNd;have hsp:=zS e1;have hP:=acH p q g h f sec (.slice pt N.length c) l pz cz hl Om hq ⟨hsp.2.2.2.1,by omega,hsp.2.2.2.2.2.1⟩;rw[e3] at hP;have hall:uz q l=true:=by rw[Bool.and_eq_true] at e3;exact e3.2
 obtain⟨n1,n2⟩:=si e2;have hlt:d - 1<N.length:=by omega
 obtain⟨k,hk⟩ : ∃ k,N[d - 1]?=some k:=⟨_,List.getElem?_eq_getElem hlt⟩;have hkb:=hN k (List.mem_of_getElem? hk);have hSec:=aM p q g h f sec (.slice pt N.length c) x k.1 hx hkb.1 hp hq hg;rw[aeQ hk] at e4;rw[e4] at hSec;have hsub:IntKind.u8.wrap ((d:Int) - 1)=((d - 1:Nat):Int):=tt Om Om Om;have hSh:=acj p q g h l pz cz N.length hl Om hq hall hsp.1 hsp.2.1 hsp.2.2.1;have hn1:=hsp.1;have hn7:=hsp.2.1;have hq0:0<q:=by have:=hsp.2.2.1;omega
 clear e1 e2 e3 hsp hall n1 n2 hkb hf1 hf2 hs1 hs2 hn;refine Fn.enter Tryz.func70 rfl rfl rfl ?_;intro w hw;obtain⟨hwK,hwY⟩:=hw;obtain⟨b,o,rfl,_,hs⟩:=id hwK |>.get hk
 repeat (first|refine Tk ?_|intro _|exact Tz)
 rename_i gS gX gD;refine WC.adraw 28 (k:=?_)
 iterate 28 (first|refine Da ?_|refine DQ.acallR (hc:=hS) (hR:=fun w hm=>(hwK.mod hm.mod).rdK) (k:=?_)|refine DQ.acall (hc:=hNd) (k:=?_)|refine DQ.acallR (hc:=hP) (hR:=fun w hm=>hwY.mod hm.mod) (k:=?_)|refine DQ.acall (hc:=hSec) (k:=?_)|refine DQ.does (fun s _=>zG rfl rfl hsub) Dp.const ?_|refine DQ.does (fun s _=>zb (i:=d - 1) (o':=o+(d - 1)*8) rfl rfl hlt rfl) Dp.const ?_|refine DQ.does (fun s _=>zn (vs:=zc k.1) (hs:=hs) (hle:=by omega) (hc:=sY hk)) Dp.const ?_|refine Dc ?_)
 refine DQ.anil (k:=?_);intro sx _
 repeat (first|refine Tk ?_|intro _|exact Tz)
 refine WC.mainA [5,6,7] [(0,pt gS),(1,vV p q g h),(2,.pointer (some ⟨gS,18,none⟩)),(3,.slice (some ⟨b,o,none⟩) N.length c),(4,.int .i64 (N.length:Int))] Dtt (fun A hA=>?_);refine WT.given [(1,.int .u64 (ep:Int)),(2,.int .u8 (d:Int)),(3,.slice pz l.length cz),(5,pt gS),(9,pt gX),(10,pt gD),(11,.int .i64 0)] [⟨gS,36,stC p q g h f sec (.slice (some ⟨b,o,none⟩) N.length c)⟩] Kr (Tlv.a (Tlv.a (Tlv.a (Tlv.a (Tlv.a (Tlv.nil)))) (h:=by refine Qux.does ?_;exact zw (vs:=yI p q g h)))) (fun hc hT=>?_)
 suffices hS224:∀ gG,A [7,6,5] [(12,pt gG),(13,.int .i64 (N.length:Int)),(1,.int .u64 (ep:Int)),(2,.int .u8 (d:Int)),(3,.slice pz l.length cz),(5,pt gS),(9,pt gX),(10,pt gD),(11,.int .i64 0)] [⟨gG,26,yI p q g h⟩,⟨gD,51,dlC 0 0 (.slice none 0 0) (.slice none 0 0) (.slice none 0 0) 0 0⟩,⟨gX,24,zc x⟩,⟨gS,36,stC p q g h f sec (.slice (some ⟨b,o,none⟩) N.length c)⟩] by
  have hS96:∀ gG,A [6,5] [(12,pt gG),(1,.int .u64 (ep:Int)),(2,.int .u8 (d:Int)),(3,.slice pz l.length cz),(5,pt gS),(9,pt gX),(10,pt gD),(11,.int .i64 0)] [⟨gG,26,yI p q g h⟩,⟨gD,51,dlC 0 0 (.slice none 0 0) (.slice none 0 0) (.slice none 0 0) 0 0⟩,⟨gX,24,zc x⟩,⟨gS,36,stC p q g h f sec (.slice (some ⟨b,o,none⟩) N.length c)⟩]:=by
   intro gG;refine (hA _ _ _).2 (WT.step [7] Dtt hc hT ⟨⟨_,rfl,?_⟩,trivial⟩)
   ·refine Tw ?_;exact WT.go [(13,.int .i64 (N.length:Int))] hA (hS224 gG)
  have hS32:∀ gG,A [5] [(12,pt gG),(1,.int .u64 (ep:Int)),(2,.int .u8 (d:Int)),(3,.slice pz l.length cz),(5,pt gS),(9,pt gX),(10,pt gD),(11,.int .i64 0)] [⟨gG,26,yI 0 0 0 0⟩,⟨gD,51,dlC 0 0 (.slice none 0 0) (.slice none 0 0) (.slice none 0 0) 0 0⟩,⟨gX,24,zc x⟩,⟨gS,36,stC p q g h f sec (.slice (some ⟨b,o,none⟩) N.length c)⟩]:=by
   intro gG;refine (hA _ _ _).2 (WT.step [6] Dtt hc hT ⟨⟨_,rfl,?_⟩,trivial⟩)
   ·refine Tw ?_;exact WT.go [] hA (hS96 gG)
  have hS0:A [] [(1,.int .u64 (ep:Int)),(2,.int .u8 (d:Int)),(3,.slice pz l.length cz),(5,pt gS),(9,pt gX),(10,pt gD),(11,.int .i64 0)] [⟨gD,51,dlC 0 0 (.slice none 0 0) (.slice none 0 0) (.slice none 0 0) 0 0⟩,⟨gX,24,zc x⟩,⟨gS,36,stC p q g h f sec (.slice (some ⟨b,o,none⟩) N.length c)⟩]:=by
   refine (hA _ _ _).2 (WT.step [5] Dtt hc hT ⟨⟨_,rfl,?_⟩,trivial⟩)
   ·(refine WO.autoM (k:=?_);intro gG);exact WT.go [(12,pt gG)] hA (hS32 gG)
  exact WT.less ((hA _ _ _).1 hS0) Dtt Kle.a (by repeat (first|exact Lle.nil|exact Lle.same|refine Lle.c ?_))
 intro gG;refine (hA _ _ _).2 (WT.fin [5,6,7] 6 hc rfl Kr ?_);clear hc hT hA
 repeat (first|refine Tj ?_|intro _|refine WO.acallX (hc:=hSh) (hR:=fun w1 hm=>hwY.mod hm.mod) (k:=fun s _=>?_)|refine Tc ?_|exact Tz)
 generalize s 0=gL;clear s
 repeat (first|refine Tk ?_|intro _|exact Tz)
 refine WC.adraw 10 (k:=?_)
 iterate 3 (refine DQ.auto (k:=?_))
 refine DQ.makes (vf:=fun _ g=>AQ g N.length N.length) (t:=24) (cs:=fun _=>mkz N.length (zc 0)) (fun s _=>yp (l:=N.length) (c:=N.length) rfl rfl (Nat.le_refl _) Om Om) Dp.const Dp.const ?_;refine DQ.auto (k:=?_);refine DQ.makes (vf:=fun _ g=>AQ g N.length N.length) (t:=24) (cs:=fun _=>mkz N.length (zc 0)) (fun s _=>yp (l:=N.length) (c:=N.length) rfl rfl (Nat.le_refl _) Om Om) Dp.const Dp.const ?_;refine DQ.auto (k:=?_);refine DQ.makes (vf:=fun _ g=>AQ g N.length N.length) (t:=117) (cs:=fun _=>mkz N.length (vC 0 0)) (fun s _=>yp (l:=N.length) (c:=N.length) rfl rfl (Nat.le_refl _) Om Om) Dp.const Dp.const ?_;refine DQ.auto (k:=?_);refine DQ.autoM (k:=?_);refine DQ.anil (k:=?_);intro sx _;generalize sx 3 0=gV;generalize sx 5 0=gY;generalize sx 7 0=gP;generalize sx 9 0=gE;clear sx
 repeat (first|refine Tk ?_|intro _|exact Tz)
 refine WC.loopI (σ:=Nat) (fun i=>i≤N.length) (fun i=>[(1,.int .u64 (ep:Int)),(2,.int .u8 (d:Int)),(5,pt gS),(9,pt gX),(10,pt gD),(12,pt gG),(16,pt gE),(72,AQ gL N.length N.length),(73,.int .i64 (N.length:Int)),(74,.int .i64 (i:Int))])
  (fun i=>[⟨gV,24,VS p q g l N.length i⟩,⟨gY,24,YS p q N l N.length i⟩,⟨gP,117,PS p q g N ep d x l N.length i⟩,⟨gE,51,dlC ep d (AQ gV N.length N.length) (AQ gY N.length N.length) (AQ gP N.length N.length) 0 0⟩,
   ⟨gL,24,(shL q l N.length).flatMap zc⟩,⟨gG,26,yI p q g h⟩,⟨gX,24,zc x⟩,⟨gS,36,stC p q g h f sec (.slice (some ⟨b,o,none⟩) N.length c)⟩,⟨gD,51,dlC 0 0 (.slice none 0 0) (.slice none 0 0) (.slice none 0 0) 0 0⟩]) (fun i=>N.length - i) 0 (fun i hi=>?_) (Nat.zero_le _)
 try dsimp only at hi ⊢
 by_cases hli:i<N.length
 ·obtain⟨k2,hk2⟩ : ∃ k,N[i]?=some k:=⟨_,List.getElem?_eq_getElem hli⟩;have hkb:=hN k2 (List.mem_of_getElem? hk2);have hky:=afX hk2;have hadd2:IntKind.i64.wrap ((i:Int)+1)=((i+1:Nat):Int):=zl Om Om Om;have hcv:IntKind.u8.wrap ((i+1:Nat):Int)=((i+1:Nat):Int):=u8_in Om Om;have hsb:shN q l i<ze:=Nat.lt_trans (aga hq0) hq;have hE1:=vQ p q g h g (shN q l i) hg hsb hp;have hE2:=vQ p q g h k2.2 (shN q l i) hkb.2 hsb hp;simp only[rE] at hE1 hE2;rw[show okV (yB p g) (g ^ shN q l i%p)=dV p q g l i from rfl] at hE1;rw[show okV (yB p k2.2) (k2.2 ^ shN q l i%p)=dY p q l N i by unfold dY exN;rw[hky]] at hE2;have hPd:dP p q g l N ep d x i=pfN p q g (shN q l i) k2.2 (yw q x (dH ep d (dV p q g l i) (dY p q l N i) i)):=by unfold dP;rw[hky]
  have hHlt:∀ b∈dH ep d (dV p q g l i) (dY p q l N i) i,b<256:=yX _ _;have hHl:(dH ep d (dV p q g l i) (dY p q l N i) i).length=32:=zI _ _;have hDr:=abX p q g h x (dH ep d (dV p q g l i) (dY p q l N i) i) hx hq hq0 hHlt hHl;have hPr:=aej p q g h u7 (shN q l i) g k2.2 (yw q x (dH ep d (dV p q g l i) (dY p q l N i) i)) hp hq hsb hg hkb.2 (jw hq0 hq) Dtt;simp only[prV] at hPr
  rw[show okV (prB p q (shN q l i) g k2.2 (yw q x (dH ep d (dV p q g l i) (dY p q l N i) i))) (prC p q (zN u7) (shN q l i) g k2.2 (yw q x (dH ep d (dV p q g l i) (dY p q l N i) i)))=(dP p q g l N ep d x i).1 by rw[hPd];rfl,
   show okV (prB p q (shN q l i) g k2.2 (yw q x (dH ep d (dV p q g l i) (dY p q l N i) i))) ((yw q x (dH ep d (dV p q g l i) (dY p q l N i) i)+shN q l i*prC p q (zN u7) (shN q l i) g k2.2 (yw q x (dH ep d (dV p q g l i) (dY p q l N i) i))%q)%q)=(dP p q g l N ep d x i).2 by rw[hPd];rfl] at hPr
  have hoV:over (VS p q g l N.length i) (0+i*4) (zc (dV p q g l i))=VS p q g l N.length (i+1):=sy zU rfl hli;have hoY:over (YS p q N l N.length i) (0+i*4) (zc (dY p q l N i))=YS p q N l N.length (i+1):=sy zU rfl hli;have hoP:over (PS p q g N ep d x l N.length i) (0+i*8) (pfC (dP p q g l N ep d x i))=PS p q g N ep d x l N.length (i+1):=sy pR rfl hli;have hlV:Nat.ble (0+i*4+4) (VS p q g l N.length i).length=true:=ru zU rfl hli;have hlY:Nat.ble (0+i*4+4) (YS p q N l N.length i).length=true:=ru zU rfl hli;have hlP:Nat.ble (0+i*8+8) (PS p q g N ep d x l N.length i).length=true:=ru pR rfl hli;have hcV:cut (VS p q g l N.length (i+1)) (0+i*4) 4=zc (dV p q g l i):=mL zU;have hcY:cut (YS p q N l N.length (i+1)) (0+i*4) 4=zc (dY p q l N i):=mL zU;have hcL:cut ((shL q l N.length).flatMap zc) (0+i*4) 4=zc (shN q l i):=by rw[Nat.zero_add];exact zL zU (adm hli)
  have hP0:=nG [] ep 8 0 none Dtt Dtt;rw[List.nil_append,zj] at hP0;have hLo:=fun v g1=>du [v] (some ⟨g1,0,none⟩) 1 Sm (by show 1≤8589934592;omega);have hb1:∀ v,[v].flatMap (be 32)=be 32 v:=fun v=>by simp
  simp only[hb1,zj] at hLo;have hO:=fun g1 c1 g2 g3 gR=>lI u7 [AQ g1 10 c1,AQ g2 32 32,AQ g3 32 32] [abL ep d (i+1),be 32 (dV p q g l i),be 32 (dY p q l N i)] gR 0 3 (by
   intro X hX;simp only[List.mem_cons,List.not_mem_nil,or_false] at hX
   rcases hX with rfl|rfl|rfl
   ·exact afh
   ·exact yZ
   ·exact yZ) (by
   simp only[yG,uV,yM,List.flatMap_cons,List.flatMap_nil,List.length_append,zj,yb,List.length_nil,sa];decide) Dtt
  rw[show hOf (zN u7) [abL ep d (i+1),be 32 (dV p q g l i),be 32 (dY p q l N i)]=dH ep d (dV p q g l i) (dY p q l N i) i from rfl] at hO;have hHlen:(byC (dH ep d (dV p q g l i) (dY p q l N i) i)).length=32:=by rw[zd,hHl]
  clear hPd hHlt hHl hb1 hN;generalize yw q x (dH ep d (dV p q g l i) (dY p q l N i) i)=D at *;generalize dH ep d (dV p q g l i) (dY p q l N i) i=H at *;generalize dV p q g l i=v at *;generalize dY p q l N i=y at *;generalize dP p q g l N ep d x i=pf at *;generalize shN q l i=sh at *;generalize hV2:VS p q g l N.length (i+1)=V2 at *;generalize hY2:YS p q N l N.length (i+1)=Y2 at *;generalize hP2:PS p q g N ep d x l N.length (i+1)=P2 at *;generalize VS p q g l N.length i=V1 at *;generalize YS p q N l N.length i=Y1 at *;generalize PS p q g N ep d x l N.length i=P1 at *
  repeat (first|refine Tk ?_|intro _|exact Tz)
  refine WC.dT rfl Om ?_
  repeat (first|refine Tj ?_|intro _|refine WO.does (zb (o':=0+i*4) rfl rfl hli rfl) ?_|refine WO.does (zw (vs:=zc sh) (hc:=hcL)) ?_|refine WO.does (zb (o':=o+i*8) rfl rfl hli rfl) ?_|refine WO.does (zn (vs:=zc k2.2) (hs:=hs) (hle:=by omega) (hc:=aJ hk2)) ?_|refine Tc ?_|exact Tz)
  rename_i g18 g19;refine WC.adrawF [10] 12 (k:=?_)
  repeat (first|refine Da ?_|refine DQ.acall (hc:=hE1) (k:=?_)|refine DQ.does (fun s _=>zb (o':=0+i*4) rfl rfl hli rfl) Dp.const ?_|refine Df ?_)
  refine DQ.anil (k:=?_);intro sx _;refine WO.stores (zo (vs:=zc v) (cs':=V2) (hc:=hoV) (hle:=hlV)) ?_
  repeat (first|refine Tk ?_|intro _|exact Tz)
  refine WC.adrawF [9] 11 (k:=?_)
  repeat (first|refine Da ?_|refine DQ.acall (hc:=hE2) (k:=?_)|refine DQ.does (fun s _=>zb (o':=0+i*4) rfl rfl hli rfl) Dp.const ?_|refine Df ?_)
  refine DQ.anil (k:=?_);intro sx _;refine WO.stores (zo (vs:=zc y) (cs':=Y2) (hc:=hoY) (hle:=hlY)) ?_
  repeat (first|refine Tk ?_|intro _|exact Tz)
  refine WC.adraw 25 (k:=?_);refine DQ.auto (k:=?_);refine DQ.acallS (hc:=hP0) (hR:=fun _=>Rd.nil) (k:=?_)
  iterate 2 (refine DQ.auto (k:=?_))
  refine DQ.does (fun s _=>zi rfl rfl hadd2) Dp.const ?_;refine DQ.does (fun s _=>zr rfl hcv) Dp.const ?_;refine DQ.makes (vf:=fun _ g=>AQ g 2 2) (t:=5) (cs:=fun _=>[.int .u8 (d:Int),.int .u8 ((i+1:Nat):Int)]) (fun s _=>zh rfl Dtt rfl) Dp.const Dp.const ?_
  refine DQ.newsE (vf:=fun _ x=>AQ (x 0) 10 (x 1)) (Nf:=fun _ x=>[⟨x 0,5,byC (be 8 ep)++[.int .u8 (d:Int),.int .u8 ((i+1:Nat):Int)]++mkz (x 1 - 10) [.int .u8 0]⟩]) (S:=fun _ x=>10≤x 1∧x 1<9223372036854775808)
   (fun s=>[⟨s 6 0,5,[.int .u8 (d:Int),.int .u8 ((i+1:Nat):Int)]⟩,⟨s 1 0,5,byC (be 8 ep)⟩]) (fun s=>.cons 6 (.head _) Dkk (.cons 1 Mh.a Dkk .nil)) (fun _=>⟨fun _=>10,by decide,by decide⟩)
   (fun s _=>tw (z:=[Value.int .u8 0]) (len:=8) (n:=2) rfl rfl (ys:=byC (be 8 ep)) (Rds.own (m:=8) (Hs.there Hs.here) (zt (by rw[zd,zj]))) (by rw[zd,zj];rfl) (xs:=[.int .u8 (d:Int),.int .u8 ((i+1:Nat):Int)]) (Rds.own (m:=2) Hs.here rfl) rfl Dtt Dtt Dtt Dtt rfl) Dp.const Dp.const Dp.const ?_
  try dsimp only[List.map_cons,List.map_nil,List.cons_append,List.nil_append]
  iterate 3 (refine DQ.auto (k:=?_))
  refine DQ.does (fun s _=>zb (o':=0+i*4) rfl rfl hli rfl) Dp.const ?_;refine DQ.does (fun s _=>zw (vs:=zc v) (hc:=hcV)) Dp.const ?_;refine DQ.makes (vf:=fun _ g=>AQ g 1 1) (t:=24) (cs:=fun _=>zc v) (fun s _=>zh rfl Dtt rfl) Dp.const Dp.const ?_;refine DQ.acallSE (vs:=fun s=>[AQ (s 13 0) 1 1]) (fun s=>[⟨s 13 0,24,zc v⟩]) (fun s=>.cons 13 (.head _) Dkk .nil) (fun s _=>hLo v (s 13 0)) (fun s _ w hm=>RdF.seg (f:=zc) (xs:=[v]) (r:=[]) (Hs.seg Hs.here hm)) (fun s=>rfl) ?_
  iterate 3 (refine DQ.auto (k:=?_))
  refine DQ.does (fun s _=>zb (o':=0+i*4) rfl rfl hli rfl) Dp.const ?_;refine DQ.does (fun s _=>zw (vs:=zc y) (hc:=hcY)) Dp.const ?_;refine DQ.makes (vf:=fun _ g=>AQ g 1 1) (t:=24) (cs:=fun _=>zc y) (fun s _=>zh rfl Dtt rfl) Dp.const Dp.const ?_;refine DQ.acallSE (vs:=fun s=>[AQ (s 20 0) 1 1]) (fun s=>[⟨s 20 0,24,zc y⟩]) (fun s=>.cons 20 (.head _) Dkk .nil) (fun s _=>hLo y (s 20 0)) (fun s _ w hm=>RdF.seg (f:=zc) (xs:=[y]) (r:=[]) (Hs.seg Hs.here hm)) (fun s=>rfl) ?_;refine DQ.makes (vf:=fun _ g=>AQ g 3 3) (t:=126) (cs:=fun s=>[AQ (s 7 0) 10 (s 7 1),AQ (s 14 0) 32 32,AQ (s 21 0) 32 32]) (fun s _=>zh rfl Dtt rfl) Dp.const (by intro s s' h;dsimp only;rw[h,h,h]<;>decide +kernel) ?_
  refine DQ.callE (v:=fun _=>.agg (byC H).toArray) (fun s=>[⟨s 22 0,126,[AQ (s 7 0) 10 (s 7 1),AQ (s 14 0) 32 32,AQ (s 21 0) 32 32]⟩,⟨s 21 0,5,byC (be 32 y)⟩,⟨s 14 0,5,byC (be 32 v)⟩,⟨s 7 0,5,byC (be 8 ep)++[.int .u8 (d:Int),.int .u8 ((i+1:Nat):Int)]++mkz (s 7 1 - 10) [.int .u8 0]⟩])
   (fun s=>.cons 22 (.head _) Dkk (.cons 21 Mh.a Dkk (.cons 14 Mh.a Dkk (.cons 7 Mh.a Dkk .nil)))) (fun s _=>hO (s 7 0) (s 7 1) (s 14 0) (s 21 0) (s 22 0)) (fun s=>rfl)
   (fun s hC w hm=>⟨Hs.seg Hs.here hm,z6.cons (by
     have hab:=RdP.own (g:=s 7 0) (c:=s 7 1) (X:=abL ep d (i+1)) (r:=mkz (s 7 1 - 10) [Value.int .u8 0]) (t:=5) hm (by rw[← di hd Om];exact Hs.there (Hs.there (Hs.there Hs.here))) (by rw[sa];exact hC.1.1.2.1) hC.1.1.2.2;rw[sa] at hab;exact hab) (z6.cons (by have:=RdP.own0 (g:=s 14 0) (c:=32) (X:=be 32 v) (t:=5) hm (Hs.there (Hs.there Hs.here)) (by rw[zj];decide) Dtt;rw[zj] at this;exact this) (z6.cons (by have:=RdP.own0 (g:=s 21 0) (c:=32) (X:=be 32 y) (t:=5) hm (Hs.there Hs.here) (by rw[zj];decide) Dtt;rw[zj] at this;exact this) z6.nil))⟩) Dp.const ?_
  refine DQ.autoM (k:=?_);refine DQ.anil (k:=?_);intro sx _;refine WO.stores (zo (vs:=byC H) (cs':=byC H) (hl:=hHlen) (h1:=zM _) (hc:=zC (by rw[hHlen];rfl)) (hle:=by rw[hHlen];rfl)) ?_;generalize sx 24 0=gH
  repeat (first|refine Tk ?_|intro _|exact Tz)
  refine WC.adrawF [15] 17 (k:=?_)
  repeat (first|refine Da ?_|refine DQ.does (fun s _=>zw (vs:=byC H) (hc:=zt hHlen) (hl:=hHlen)) Dp.const ?_|refine DQ.acall (hc:=hDr) (k:=?_)|refine DQ.acall (hc:=hPr) (k:=?_)|refine DQ.does (fun s _=>zb (o':=0+i*8) rfl rfl hli rfl) Dp.const ?_|refine Df ?_)
  refine DQ.anil (k:=?_);intro sx _;refine WO.stores (zo (vs:=pfC pf) (cs':=P2) (hc:=hoP) (hle:=hlP)) ?_
  repeat (first|refine Tj ?_|intro _|refine WO.does (zi rfl rfl hadd2) ?_|refine Tc ?_|exact Tz)
  subst hV2 hY2 hP2;exact WX.metI (i+1) (hs:=⟨by show i+1≤N.length;omega,by show N.length - (i+1)<N.length - i;omega⟩)
 ·have hi2:i=N.length:=by omega
  subst hi2;have hVn:VS p q g l N.length N.length=(dVs p q g l N.length).flatMap zc:=by unfold VS dVs;rw[Nat.sub_self,show mkz 0 (zc 0)=[] from rfl,List.append_nil]
  have hYn:YS p q N l N.length N.length=(dYs p q l N N.length).flatMap zc:=by unfold YS dYs;rw[Nat.sub_self,show mkz 0 (zc 0)=[] from rfl,List.append_nil]
  have hPn:PS p q g N ep d x l N.length N.length=(dPs p q g l N ep d x N.length).flatMap pfC:=by unfold PS dPs;rw[Nat.sub_self,show mkz 0 (vC 0 0)=[] from rfl,List.append_nil]
  have hVl:(dVs p q g l N.length).length=N.length:=by simp[dVs]
  have hYl:(dYs p q l N N.length).length=N.length:=by simp[dYs]
  have hPl:(dPs p q g l N ep d x N.length).length=N.length:=by simp[dPs]
  have hne:∀ {α:Type} {xs:List α},xs.length=N.length→xs≠[]:=fun h e=>by rw[e] at h;simp at h;omega
  have hH:=fun gV gY gP=>pM ep d 0 0 (some ⟨gV,0,none⟩) (some ⟨gY,0,none⟩) (some ⟨gP,0,none⟩) N.length N.length N.length (dVs p q g l N.length) (dYs p q l N N.length) (dPs p q g l N ep d x N.length) hd (hne hVl) (hne hYl) (hne hPl) Om Om Om;rw[hVl,hYl,hPl] at hH;rw[show yN ep d (dVs p q g l N.length) (dYs p q l N N.length) (dPs p q g l N ep d x N.length)=dHs p q g l N ep d x N.length from rfl] at hH;have hHlt:∀ b∈dHs p q g l N ep d x N.length,b<256:=yX _ _;have hHl:(dHs p q g l N ep d x N.length).length=32:=zI _ _;have hDr:=abX p q g h x (dHs p q g l N ep d x N.length) hx hq hq0 hHlt hHl;have hSg:=acx p q g h x (yw q x (dHs p q g l N ep d x N.length)) (dHs p q g l N ep d x N.length) hp hq hg hx (jw hq0 hq) hHlt hHl;simp only[prV] at hSg
  rw[show okV (sgB p q g x (yw q x (dHs p q g l N ep d x N.length))) (sgC p q g x (yw q x (dHs p q g l N ep d x N.length)) (dHs p q g l N ep d x N.length))=(dSg p q g l N ep d x N.length).1 from rfl,
   show okV (sgB p q g x (yw q x (dHs p q g l N ep d x N.length))) ((yw q x (dHs p q g l N ep d x N.length)+x*sgC p q g x (yw q x (dHs p q g l N ep d x N.length)) (dHs p q g l N ep d x N.length)%q)%q)=(dSg p q g l N ep d x N.length).2 from rfl] at hSg
  have hHlen:(byC (dHs p q g l N ep d x N.length)).length=32:=by rw[zd,hHl]
  rw[hVn,hYn,hPn];clear hVn hYn hPn hHlt hHl hne hN;generalize yw q x (dHs p q g l N ep d x N.length)=D at *;generalize dHs p q g l N ep d x N.length=H at *;generalize dSg p q g l N ep d x N.length=sg at *;generalize dVs p q g l N.length=Vs at *;generalize dYs p q l N N.length=Ys at *;generalize dPs p q g l N ep d x N.length=Ps at *
  repeat (first|refine Tk ?_|intro _|exact Tz)
  refine WC.dF rfl Om ?_
  repeat (first|refine Tj ?_|intro _|refine WO.acallR (hc:=hH gV gY gP) (hR:=fun w1 hm=>⟨by have:=RdF.seg (f:=zc) (xs:=Vs) (r:=[]) (c:=N.length) (Hs.seg (L:=_) (g:=gV) (t:=24) (by rw[List.append_nil];repeat (first|exact Hs.here|apply Hs.there)) hm);rw[hVl] at this;exact this,by have:=RdF.seg (f:=zc) (xs:=Ys) (r:=[]) (c:=N.length) (Hs.seg (L:=_) (g:=gY) (t:=24) (by rw[List.append_nil];repeat (first|exact Hs.here|apply Hs.there)) hm);rw[hYl] at this;exact this,by have:=RdF.seg (f:=pfC) (xs:=Ps) (r:=[]) (c:=N.length) (Hs.seg (L:=_) (g:=gP) (t:=117) (by rw[List.append_nil];repeat (first|exact Hs.here|apply Hs.there)) hm);rw[hPl] at this;exact this⟩) (k:=?_)|refine Tc ?_|exact Tz)
  refine WO.stores (zo (vs:=byC H) (cs':=byC H) (hl:=hHlen) (h1:=zM _) (hc:=zC (by rw[hHlen];rfl)) (hle:=by rw[hHlen];rfl)) ?_
  repeat (first|refine Tk ?_|intro _|exact Tz)
  refine WC.adrawF [10] 12 (k:=?_)
  repeat (first|refine Da ?_|refine DQ.does (fun s _=>zw (vs:=byC H) (hc:=zt hHlen) (hl:=hHlen)) Dp.const ?_|refine DQ.acall (hc:=hDr) (k:=?_)|refine DQ.acall (hc:=hSg) (k:=?_)|refine Df ?_)
  refine DQ.anil (k:=?_);intro sx _
  repeat (first|refine Tk ?_|intro _|exact Tz)
  exact WX.ret2 rfl (by exact vF) Rv.t [⟨gP,117,Ps.flatMap pfC⟩,⟨gY,24,Ys.flatMap zc⟩,⟨gV,24,Vs.flatMap zc⟩] (by repeat (first|exact Lle.nil|refine Lle.c ?_)) ⟨fun i=>if i=0 then gV else if i=1 then gY else gP,rfl,rfl,trivial⟩
end
end Sx
end
section
open Go Go.RowKit Go.BigFrame
namespace Sx
attribute [local irreducible] DQ WC WO WX wd
def osN (p q h:Nat) (l:LN) (i:Nat):Nat:=exN p h (scN q l i)
def osL (p q h:Nat) (l:LN) (n:Nat):List Nat:=(List.range n).map (osN p q h l)
def mz (p q g h:Nat) (f sec:Int) (N:LP) (l:LN):Bool:=y5 p q g h f sec N && (decide ((l.length:Int)=f+sec) && uz q l)
def oV (p q h:Nat) (l:LN) (n i:Nat):List Value:=(List.range n).flatMap fun k=>zc (if k<i then osN p q h l k else scN q l k)
theorem aeF {p q h n:Nat} {l:LN}:oV p q h l n 0=(scL q l n).flatMap zc:=by
 unfold oV scL;rw[List.flatMap_map];exact uh fun k _=>by rw[if_neg (Nat.not_lt_zero _)]
theorem adK {p q h n:Nat} {l:LN}:oV p q h l n n=(osL p q h l n).flatMap zc:=by
 unfold oV osL;rw[List.flatMap_map];exact uh fun k hk=>by rw[if_pos (List.mem_range.1 hk)]
theorem oJ {p q h n i:Nat} {l:LN} (hi:i<n) (j:Nat) (hj:j=i∨j=i+1):oV p q h l n j=((List.range i).flatMap fun k=>zc (osN p q h l k))++(zc (if i<j then osN p q h l i else scN q l i)++(List.range' (i+1) (n - (i+1))).flatMap fun k=>zc (scN q l k)):=by
 unfold oV;rw[range_split hi,List.flatMap_append,List.flatMap_cons];congr 1
 ·exact uh fun k hk=>by rw[if_pos (by have:=List.mem_range.1 hk;omega)]
 ·congr 1;exact uh fun k hk=>by rw[if_neg (by have:=(List.mem_range'_1.1 hk).1;omega)]
theorem afR {p q h n i:Nat} {l:LN} (hi:i<n):cut (oV p q h l n i) (0+i*4) 4=zc (scN q l i):=by
 have hl:((List.range i).flatMap fun k=>zc (osN p q h l k)).length=i*4:=by rw[zF (f:=fun k=>zc (osN p q h l k)) (k:=4) (fun _=>rfl),List.length_range]
 rw[oJ hi i (.inl rfl),if_neg (Nat.lt_irrefl i),Nat.zero_add,← hl];unfold cut;rw[List.drop_left];rfl
theorem aeU {p q h n i:Nat} {l:LN} (hi:i<n):over (oV p q h l n i) (0+i*4) (zc (osN p q h l i))=oV p q h l n (i+1):=by
 have hl:((List.range i).flatMap fun k=>zc (osN p q h l k)).length=i*4:=by rw[zF (f:=fun k=>zc (osN p q h l k)) (k:=4) (fun _=>rfl),List.length_range]
 rw[oJ hi i (.inl rfl),oJ hi (i+1) (.inr rfl),if_neg (Nat.lt_irrefl i),if_pos (Nat.lt_succ_self i),Nat.zero_add,← hl];rw[tL];simp[zc]
theorem afk {p q h n i:Nat} {l:LN}:(oV p q h l n i).length=n*4:=by
 unfold oV;rw[zF (f:=fun k=>zc (if k<i then osN p q h l k else scN q l k)) (k:=4) (fun _=>rfl),List.length_range]
theorem cj {p q g h:Nat} {f sec:Int} {N:LP} (hs:y5 p q g h f sec N=true):sec≤3∧sec<(q:Int)∧sec≤f+1∧3*f+1≤(N.length:Int):=by
 unfold y5 at hs;simp only[Bool.and_eq_true,decide_eq_true_eq] at hs;omega
section
variable (p q g h:Nat) (f:Int) (pt:Option Addr) (c:Nat) (N:LP) (pz:Option Addr) (cz:Nat) (l:LN)
theorem abk (m:Nat) (hp:p<ze) (hq:q<ze) (hg:g<ze) (hh:h<ze) (hN:zZ N) (hNl:N.length≤100) (hl:∀ a∈l,a<ze) (hn:l.length≤100)
  (hf1 : -9223372036854775808≤f) (hf2:f≤9223372036854775807) (hs2:(m:Int)≤9223372036854775807) (hA:mz p q g h f (m:Int) N l=true) :
  Fn Tryz.prog 90 [stV p q g h f (m:Int) (.slice pt N.length c),.slice pz l.length cz] (fun w=>RdF ya (.slice pt N.length c) N w∧RdF zc (.slice pz l.length cz) l w)
   (Ex (fun s=>.tuple #[AQ (s 0) m m,.int .i64 0]) (fun s=>[⟨s 0,24,(osL p q h l m).flatMap zc⟩]) (fun _=>True)):=by
 have hS:=yh p q g h f (m:Int) pt c N hp hq hg hh hN Om hf1 hf2 Om hs2;unfold mz at hA;rw[Bool.and_eq_true,Bool.and_eq_true,decide_eq_true_eq] at hA;obtain⟨e1,he,hall⟩:=hA;rw[e1] at hS;have hsp:=zS e1;have hadd:IntKind.i64.wrap (f+(m:Int))=f+(m:Int):=i64_in Om Om;have hmo:=cj e1;have hm3:m≤3:=by omega
 have hSe:=de p q g h l pz cz m hl Om hq hall Om hm3 Om;have hq0:0<q:=by omega
 clear e1;refine Fn.enter Tryz.func90 rfl rfl rfl ?_;intro w hw;obtain⟨hwK,hwY⟩:=hw
 repeat (first|refine Tj ?_|intro _|refine WO.acallR (hc:=hS) (hR:=fun w hm=>(hwK.mod hm.mod).rdK) (k:=?_)|refine WO.does (zi rfl rfl hadd) ?_|refine WO.does (zA rfl rfl he) ?_|refine WO.acallX (hc:=hSe) (hR:=fun w hm=>hwY.mod hm.mod) (k:=fun s _=>?_)|refine Tc ?_|exact Tz)
 rename_i gS _;generalize s 0=gO;clear s
 repeat (first|refine Tk ?_|intro _|exact Tz)
 refine WC.loopI (σ:=Nat) (fun i=>i≤m) (fun i=>[(2,Sx.pt gS),(6,AQ gO m m),(35,AQ gO m m),(36,.int .i64 (m:Int)),(37,.int .i64 (i:Int))]) (fun i=>[⟨gO,24,oV p q h l m i⟩,⟨gS,36,stC p q g h f (m:Int) (.slice pt N.length c)⟩]) (fun i=>m - i) 0 (fun i hi=>?_) (Nat.zero_le _) (hl:=by rw[aeF];repeat (first|exact Lle.nil|refine Lle.c ?_))
 try dsimp only at hi ⊢
 by_cases hlt:i<m
 ·have hadd2:IntKind.i64.wrap ((i:Int)+1)=((i+1:Nat):Int):=zl Om Om Om;have hE:=vQ p q g h h (scN q l i) hh (Nat.lt_trans (Nat.mod_lt _ hq0) hq) hp;simp only[rE] at hE;rw[show okV (yB p h) (h ^ scN q l i%p)=osN p q h l i from rfl] at hE;have hcu:=afR (p:=p) (q:=q) (h:=h) (l:=l) hlt;have hov:=aeU (p:=p) (q:=q) (h:=h) (l:=l) hlt;have hln:Nat.ble (0+i*4+4) (oV p q h l m i).length=true:=by rw[afk,Nat.ble_eq];omega
  generalize hV2:oV p q h l m (i+1)=V2 at *;generalize oV p q h l m i=V1 at *;generalize scN q l i=s1 at *;generalize osN p q h l i=s2 at *
  repeat (first|refine Tk ?_|intro _|exact Tz)
  refine WC.dT rfl Om ?_
  repeat (first|refine Tj ?_|intro _|refine WO.does (zb (o':=0+i*4) rfl rfl hlt rfl) ?_|refine WO.does (zw (vs:=zc s1) (hc:=hcu)) ?_|refine WO.acall (hc:=hE) (k:=?_)|refine Tc ?_|exact Tz)
  refine WO.stores (zo (vs:=zc s2) (cs':=V2) (hc:=hov) (hle:=hln)) ?_
  repeat (first|refine Tj ?_|intro _|refine WO.does (zi rfl rfl hadd2) ?_|refine Tc ?_|exact Tz)
  subst hV2;exact WX.metI (i+1) (hs:=⟨by show i+1≤m;omega,by show m - (i+1)<m - i;omega⟩)
 ·have hi2:i=m:=by omega
  subst hi2;rw[adK]
  repeat (first|refine Tk ?_|intro _|exact Tz)
  refine WC.dF rfl Om ?_
  repeat (first|refine Tk ?_|intro _|exact Tz)
  exact WX.ret2 rfl Rv.t Rv.t [⟨gO,24,(osL p q h l i).flatMap zc⟩] (Lle.c Lle.nil) ⟨fun _=>gO,rfl,rfl,trivial⟩
end
end Sx
end
end Go.Proofs.YtiaibpcaloigkaaGreatDoor
