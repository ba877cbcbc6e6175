/- Part 41 of the proof. -/
import Derived.Test.YtiiefkchpicncaaGreatDoorA40
set_option linter.unusedSimpArgs false
set_option linter.unusedVariables false
set_option maxHeartbeats 8000000
namespace Go.Proofs.YtiiefkchpicncaaGreatDoor
section
open Go Go.RowKit Go.BigFrame
namespace Sx
attribute [local irreducible] DQ WC WO WX wd
section
variable (p q g h:Nat)
theorem dz (key:Nat) (H:List Nat) (hl:H.length=32) :
  Fn Tryz.prog 128 [vC p q g h,zj key,.agg (byC H).toArray] Tr
   (Ex (fun x=>.func (.func 168) #[] #[pt (x 0),pt (x 1),pt (x 2)]) (fun x=>[⟨x 2,53,byC H⟩,⟨x 1,24,zb key⟩,⟨x 0,26,yB p q g h⟩]) (fun _=>True)):=by
 have hbH:(byC H).length=32:=by rw[ze,hl]
 refine Fn.enter Tryz.func128 rfl rfl rfl ?_;intro w hw
 repeat (first|refine Ta ?_|(refine Tm ?_;intro _)|refine WO.does (zP rfl rfl) ?_|refine Tc ?_|exact Tz)
 rename_i g3 g4 g5;exact WX.ret1 rfl (by exact zo rfl) [⟨g5,53,byC H⟩,⟨g4,24,zb key⟩,⟨g3,26,yB p q g h⟩] (by repeat (first|exact Lle.nil|refine Lle.c ?_)) ⟨fun i=>if i=0 then g3 else if i=1 then g4 else g5,rfl,rfl,trivial⟩
theorem abm (x d c S:Nat) (H:List Nat) (hp:p<zd) (hq:q<zd) (hg:g<zd) (hx:x<zd) (hd:d<zd) (hl:H.length=32) (hB:sgB p q g x d=false) :
  Fn Tryz.prog 65 [vC p q g h,zj x,.agg (byC H).toArray,zj d] Tr (Is (prV false c S)):=by
 have hE:=v7 p q g h g x hg hx hp;have hX:=fun b=>iQ p q g h [x,d] (some ⟨b,0,none⟩) 2 (by intro a ha;simp only[List.mem_cons,List.not_mem_nil,or_false] at ha;rcases ha with rfl|rfl<;>assumption) (by show 2≤1099511627776;omega) hq;have hbH:(byC H).length=32:=by rw[ze,hl]
 unfold sgB at hB;cases e1:yq p g with
 | false =>
  rw[e1] at hE;refine Fn.enter Tryz.func65 rfl rfl rfl ?_;intro w hw
  repeat (first|refine Ta ?_|(refine Tm ?_;intro _)|refine WO.acall (hc:=hE) (k:=?_)|refine WO.does (vW rfl rfl (by decide)) ?_|refine Tc ?_|exact Tz)
  done
 | true =>
 rw[e1] at hE hB;generalize g ^ x%p=y at *;cases e2:decide (x=0) with
 | true =>
  refine Fn.enter Tryz.func65 rfl rfl rfl ?_;intro w hw
  repeat (first|refine Ta ?_|(refine Tm ?_;intro _)|refine WO.acall (hc:=hE) (k:=?_)|refine WO.does (zB rfl rfl rfl) ?_|refine WO.does (zt rfl rfl hx zy e2) ?_|refine Tc ?_|exact Tz)
  done
 | false =>
 cases e3:decide (d=0) with
 | true =>
  refine Fn.enter Tryz.func65 rfl rfl rfl ?_;intro w hw
  repeat (first|refine Ta ?_|(refine Tm ?_;intro _)|refine WO.acall (hc:=hE) (k:=?_)|refine WO.does (zB rfl rfl rfl) ?_|refine WO.does (zt rfl rfl hx zy e2) ?_|refine WO.does (zt rfl rfl hd zy e3) ?_|refine Tc ?_|exact Tz)
  done
 | false =>
 have e4:([x,d].all fun x=>zE x x q)=false:=by
  simp at e2 e3;simpa [e2,e3] using hB
 rw[e4] at hX;refine Fn.enter Tryz.func65 rfl rfl rfl ?_;intro w hw
 repeat (first|refine Ta ?_|(refine Tm ?_;intro _)|refine WO.acall (hc:=hE) (k:=?_)|refine WO.does (zB rfl rfl rfl) ?_|refine WO.does (zt rfl rfl hx zy e2) ?_|refine WO.does (zt rfl rfl hd zy e3) ?_|(refine WO.makes (zh (cs:=zb x++zb d) rfl (by decide) rfl) ?_;intro _)|refine WO.acallR (hc:=hX _) (hR:=fun w1 hm=>RdF.seg (f:=zb) (xs:=[x,d]) (r:=[]) (Hs.sg hm)) (k:=?_)|refine Tc ?_|exact Tz)
 done
theorem ac2 (x d c:Nat) (H:List Nat) (hp:p<zd) (hq:q<zd) (hg:g<zd) (hx:x<zd) (hd:d<zd) (hH:∀ b∈H,b<256) (hl:H.length=32) (hB:sgB p q g x d=true) (hc:sgC p q g x d H=c) :
  Fn Tryz.prog 65 [vC p q g h,zj x,.agg (byC H).toArray,zj d] Tr (Is (prV true c ((d+x*c%q)%q))):=by
 have hE1:=v7 p q g h g x hg hx hp;have hE2:=v7 p q g h g d hg hd hp;have hX:=fun b=>iQ p q g h [x,d] (some ⟨b,0,none⟩) 2 (by intro a ha;simp only[List.mem_cons,List.not_mem_nil,or_false] at ha;rcases ha with rfl|rfl<;>assumption) (by show 2≤1099511627776;omega) hq;have hbH:(byC H).length=32:=by rw[ze,hl]
 unfold sgB at hB;simp only[Bool.and_eq_true,decide_eq_true_eq] at hB;obtain⟨⟨⟨⟨e1,e2⟩,e3⟩,e4⟩,e5⟩:=hB;rw[e1] at hE1 hE2;have d4:decide (x=0)=false:=decide_eq_false e4;have d5:decide (d=0)=false:=decide_eq_false e5;rw[show ([x,d].all fun x=>zE x x q)=true by simp[e2,e3]] at hX;have hq1:=(zF e2).1;have hxq:=(zF e2).2.1;have hdq:=(zF e3).2.1;have hcl:c<q:=by rw[← hc];exact vM Om _ _
 have hCh:=fun gG gK gH=>jB p q g h (g ^ x%p) (g ^ d%p) gG gK gH H hq Om hH hl;rw[show fI q (g ^ x%p) (g ^ d%p) H=c from hc] at hCh;have hM:=kA p q g h x c hx (Nat.lt_trans hcl hq) hq;rw[show zE x c q=true by simp[zE,hq1,hxq,hcl]] at hM;have hml:x*c%q<q:=Nat.mod_lt _ Om;have hA:=nH p q g h d (x*c%q) hd (Nat.lt_trans hml hq) hq;rw[show zE d (x*c%q) q=true by simp[zE,hq1,hdq,hml]] at hA;have hS:=dz p q g h (g ^ x%p) H hl;clear hc;generalize (d+x*c%q)%q=S at *;generalize x*c%q=M at *;generalize g ^ x%p=P1 at *;generalize g ^ d%p=P2 at *;refine Fn.enter Tryz.func65 rfl rfl rfl ?_;intro w hw
 repeat (first|refine Ta ?_|(refine Tm ?_;intro _)|refine WO.acall (hc:=hE1) (k:=?_)|refine WO.acall (hc:=hE2) (k:=?_)|refine WO.does (zB rfl rfl rfl) ?_|refine WO.does (zt rfl rfl hx zy d4) ?_|refine WO.does (zt rfl rfl hd zy d5) ?_|(refine WO.makes (zh (cs:=zb x++zb d) rfl (by decide) rfl) ?_;intro _)|refine WO.acallR (hc:=hX _) (hR:=fun w1 hm=>RdF.seg (f:=zb) (xs:=[x,d]) (r:=[]) (Hs.sg hm)) (k:=?_)|refine Tc ?_|exact Tz)
 refine WC.adraw 7 (k:=?_)
 iterate 2 (refine DQ.auto (k:=?_))
 refine DQ.does (fun s _=>zH (vs:=byC H) (hc:=zA hbH) (hl:=hbH)) Dp.const ?_
 refine DQ.callsE (fs:=fun _=>[]) (cs:=fun _=>[]) (R:=fun _=>Tr) (vf:=fun _ x=>.func (.func 168) #[] #[pt (x 0),pt (x 1),pt (x 2)]) (Nf:=fun _ x=>[⟨x 2,53,byC H⟩,⟨x 1,24,zb P1⟩,⟨x 0,26,yB p q g h⟩]) (S:=fun _ _=>True) (fun _=>[]) (fun _=>.nil)
  (fun _=>⟨fun _=>0,trivial⟩) (fun _ _=>hS) (fun _=>rfl) (fun _=>rfl) (fun _=>rfl) (fun _ _ w hm=>trivial) Dp.const Dp.const Dp.const ?_
 try dsimp only[List.map_cons,List.map_nil,List.cons_append,List.nil_append]
 refine DQ.auto (k:=?_)
 refine DQ.callsE (fs:=fun _=>[]) (cs:=fun s=>[pt (s 3 0),pt (s 3 1),pt (s 3 2)]) (R:=fun s w=>Seg w (s 3 0) 0 (yB p q g h)∧Seg w (s 3 1) 0 (zb P1)∧Seg w (s 3 2) 0 (byC H)) (vf:=fun _ _=>zj c) (Nf:=fun _ _=>[]) (S:=fun _ _=>True) (fun s=>[⟨s 3 2,53,byC H⟩,⟨s 3 1,24,zb P1⟩,⟨s 3 0,26,yB p q g h⟩])
  (fun s=>.cons 3 (by repeat (first|exact .head _|apply List.Mem.tail)) (by decide +kernel) (.cons 3 (by repeat (first|exact .head _|apply List.Mem.tail)) (by decide +kernel) (.cons 3 (by repeat (first|exact .head _|apply List.Mem.tail)) (by decide +kernel) .nil)))
  (fun _=>⟨fun _=>0,trivial⟩) (fun s _=>(hCh (s 3 0) (s 3 1) (s 3 2)).ex) (fun _=>rfl) (fun _=>rfl) (fun _=>rfl) (fun s _ w hm=>⟨Hs.seg (.there (.there .here)) hm,Hs.seg (.there .here) hm,Hs.seg .here hm⟩) Dp.const Dp.const Dp.const ?_
 try dsimp only[List.map_cons,List.map_nil,List.cons_append,List.nil_append]
 refine DQ.autoM (k:=?_);refine DQ.anil (k:=?_);intro sx _;generalize sx 6 0=gC
 repeat (first|refine Ta ?_|(refine Tm ?_;intro _)|refine WO.acall (hc:=hM) (k:=?_)|refine WO.acall (hc:=hA) (k:=?_)|refine Tc ?_|exact Tz)
 done
theorem adO (x d:Nat) (H:List Nat) (hp:p<zd) (hq:q<zd) (hg:g<zd) (hx:x<zd) (hd:d<zd) (hH:∀ b∈H,b<256) (hl:H.length=32) :
  Fn Tryz.prog 65 [vC p q g h,zj x,.agg (byC H).toArray,zj d] Tr (Is (prV (sgB p q g x d) (sgC p q g x d H) ((d+x*sgC p q g x d H%q)%q))):=by
 generalize hc:sgC p q g x d H=c;cases hB:sgB p q g x d with
 | false=>exact abm p q g h x d c _ H hp hq hg hx hd hl hB
 | true=>exact ac2 p q g h x d c H hp hq hg hx hd hH hl hB hc
end
theorem RdF.rdK {v:Value} {N:List (Nat × Nat)} {w:World} (h:RdF yf v N w):RdK v N w:=h
end Sx
end
section
open Go Go.RowKit Go.BigFrame
namespace Sx
attribute [local irreducible] DQ WC WO WT WX wd
section
open Kp
variable {P:Program} {w0:World} {gs:List Nat} {n:Nat} {fl:List Nat} {Q:Exit→Act→World→Prop} {ops:List Oper} {L0:List Ent}
variable {tail rest:List Oper} {i:Nat} {C:zI→Prop} {K:zI→List (Nat × Value)} {N:zI→List (Nat × Ent)}
variable {d:Nat} {op:Op} {ty:TypeId} {pos:String} {after:Array Edge} {gd:Option (Nat × Bool)}
theorem DQ.acallSE {f:FuncId} [Cal P f] {xs:Array Operand} {ats:Array TypeId} {vs:zI→List Value} {Rq:zI→World→Prop} {t m:Nat} {cs:List Value} (E:zI→List Ent) (hE:∀ s,Vs ops i (N s) (E s)) (hc:∀ s,C s→Fn P f (vs s) (Rq s) (dQ t m cs)) (hR:∀ s,C s→∀ w,Mr w0 gs (E s++L0) w→Rq s w) (ha:∀ s,evs (K s) xs.toList=some (vs s))
  (k:DQ P w0 gs n fl Q ops L0 tail (i+1) rest (fun s=>C s∧True) (fun s=>(d,.slice (some ⟨s i 0,0,none⟩) m m)::K s) (fun s=>(i,⟨s i 0,t,cs⟩)::N s))
  (hfl:fl.contains i=false:=by rfl) (hw:∀ s,wk ops (K s) gd=some true:=by intro _;rfl) (hd:Nat.blt d n=true:=by rfl) :
  DQ P w0 gs n fl Q ops L0 tail i (⟨some d,.call { callee:=.value (.func f),args:=xs,argTypes:=ats },ty,pos,after,gd⟩::rest) C K N :=
 DQ.callsE (fs:=fun _=>[]) (cs:=fun _=>[]) (R:=Rq) (vf:=fun _ x=>.slice (some ⟨x 0,0,none⟩) m m) (Nf:=fun _ x=>[⟨x 0,t,cs⟩]) (S:=fun _ _=>True) E hE
  (fun _=>⟨fun _=>0,trivial⟩) (fun s hC=>Fn.weak (hc s hC) (fun _ h=>h) (fun v N ⟨g,e1,e2⟩=>⟨fun _=>g,e1,e2,trivial⟩)) (fun _=>rfl) ha (fun _=>by simp) hR Dp.const Dp.const Dp.const k hfl hw hd
end
section
variable {α:Type} {f:Nat→α} {F:α→List Value} {k:Nat} {z:List Value} {i n:Nat}
theorem nL (h:i<n):((List.range n).map f)[i]?=some (f i):=by simp[h]
theorem sk (hk:∀ x,(F x).length=k) (hz:z.length=k) (h:i<n):over (((List.range i).map f).flatMap F++mkz (n - i) z) (0+i*k) (F (f i))=((List.range (i+1)).map f).flatMap F++mkz (n - (i+1)) z:=by
 have htk:∀ j,j≤n→((List.range n).map f).take j=(List.range j).map f:=fun j hj=>by rw[← List.map_take,List.take_range,Nat.min_eq_left hj]
 have:=ni (f:=F) (z:=z) (m:=n - i) hk hz (nL (f:=f) h) Om;rw[htk i Om,htk (i+1) Om,hz,show n - i - 1=n - (i+1) by omega] at this;rw[Nat.zero_add];exact this
theorem rB (hk:∀ x,(F x).length=k) (hz:z.length=k) (h:i<n):Nat.ble (0+i*k+k) (((List.range i).map f).flatMap F++mkz (n - i) z).length=true:=by
 rw[Nat.ble_eq,List.length_append,zK hk,zN,List.length_map,List.length_range,hz,Nat.zero_add];have:1*k≤(n - i)*k:=Nat.mul_le_mul_right _ Om;omega
theorem nm {r:List Value} (hk:∀ x,(F x).length=k):cut (((List.range (i+1)).map f).flatMap F++r) (0+i*k) k=F (f i):=by
 rw[Nat.zero_add];exact i5 hk (nL (Nat.lt_succ_self i))
end
section
variable (p q g h:Nat) (f sec:Int) (pt:Option Addr) (c:Nat) (N:List (Nat × Nat)) (ep d x:Nat) (pz:Option Addr) (cz:Nat) (l:List Nat)
def VS (n i:Nat):List Value:=((List.range i).map (dV p q g l)).flatMap zb++mkz (n - i) (zb 0)
def YS (n i:Nat):List Value:=((List.range i).map (dY p q l N)).flatMap zb++mkz (n - i) (zb 0)
def PS (n i:Nat):List Value:=((List.range i).map (dP p q g l N ep d x)).flatMap pfC++mkz (n - i) (y7 0 0)
theorem abY (hp:p<zd) (hq:q<zd) (hg:g<zd) (hh:h<zd) (hN:yz N) (hNl:N.length≤100) (hl:∀ a∈l,a<zd) (hn:l.length≤100)
  (hf1 : -9223372036854775808≤f) (hf2:f≤9223372036854775807) (hs1 : -9223372036854775808≤sec) (hs2:sec≤9223372036854775807) (hd:d<256) (hx:x<zd) (hep:ep<18446744073709551616)
  (hA:jT p q g h f sec N d l x=true) :
  Fn Tryz.prog 28 [stV p q g h f sec (.slice pt N.length c),.int .u64 (ep:Int),.int .u8 (d:Int),.slice pz l.length cz,zj x] (fun w=>RdF yf (.slice pt N.length c) N w∧RdF zb (.slice pz l.length cz) l w)
   (Ex (fun s=>.tuple #[dlV ep d (.slice (some ⟨s 0,0,none⟩) N.length N.length) (.slice (some ⟨s 1,0,none⟩) N.length N.length) (.slice (some ⟨s 2,0,none⟩) N.length N.length) (dSg p q g l N ep d x N.length).1 (dSg p q g l N ep d x N.length).2,.int .i64 0])
    (fun s=>[⟨s 2,86,(dPs p q g l N ep d x N.length).flatMap pfC⟩,⟨s 1,24,(dYs p q l N N.length).flatMap zb⟩,⟨s 0,24,(dVs p q g l N.length).flatMap zb⟩]) (fun _=>True)):=by
 have hS:=tL p q g h f sec pt c N hp hq hg hh hN Om hf1 hf2 hs1 hs2;have hNd:=aaI p q g h f sec pt c N d hd Om;unfold jT at hA;rw[Bool.and_eq_true,Bool.and_eq_true,Bool.and_eq_true] at hA;obtain⟨⟨⟨e1,e2⟩,e3⟩,e4⟩:=hA;rw[e1] at hS;rw[e2] at hNd;have hsp:=vu e1;have hP:=adH p q g h f sec (.slice pt N.length c) l pz cz hl Om hq ⟨hsp.2.2.2.1,by omega,hsp.2.2.2.2.2.1⟩;rw[e3] at hP;have hall:tP q l=true:=by rw[Bool.and_eq_true] at e3;exact e3.2
 obtain⟨n1,n2⟩:=si e2;have hlt:d - 1<N.length:=by omega
 obtain⟨k,hk⟩ : ∃ k,N[d - 1]?=some k:=⟨_,List.getElem?_eq_getElem hlt⟩;have hkb:=hN k (List.mem_of_getElem? hk);have hSec:=cW p q g h f sec (.slice pt N.length c) x k.1 hx hkb.1 hp hq hg;rw[acg hk] at e4;rw[e4] at hSec;have hsub:IntKind.u8.wrap ((d:Int) - 1)=((d - 1:Nat):Int):=qe Om Om Om;have hSh:=aeb p q g h l pz cz N.length hl Om hq hall hsp.1 hsp.2.1 hsp.2.2.1;have hn1:=hsp.1;have hn7:=hsp.2.1;have hq0:0<q:=by have:=hsp.2.2.1;omega
 clear e1 e2 e3 hsp hall n1 n2 hkb hf1 hf2 hs1 hs2 hn;refine Fn.enter Tryz.func28 rfl rfl rfl ?_;intro w hw;obtain⟨hwK,hwY⟩:=hw;obtain⟨b,o,rfl,_,hs⟩:=id hwK |>.get hk
 repeat (first|refine Tw ?_|(refine Tm ?_;intro _)|exact Tz)
 rename_i gS gX gD;refine WC.adraw 28 (k:=?_)
 iterate 28 (first|refine Da ?_|refine DQ.acallR (hc:=hS) (hR:=fun w hm=>(hwK.mod hm.mod).rdK) (k:=?_)|refine DQ.acall (hc:=hNd) (k:=?_)|refine DQ.acallR (hc:=hP) (hR:=fun w hm=>hwY.mod hm.mod) (k:=?_)|refine DQ.acall (hc:=hSec) (k:=?_)|refine DQ.does (fun s _=>zG rfl rfl hsub) Dp.const ?_|refine DQ.does (fun s _=>zc (i:=d - 1) (o':=o+(d - 1)*8) rfl rfl hlt rfl) Dp.const ?_|refine DQ.does (fun s _=>zm (vs:=zb k.1) (hs:=hs) (hle:=by omega) (hc:=kR hk)) Dp.const ?_|refine Dc ?_)
 refine DQ.anil (k:=?_);intro sx _
 repeat (first|refine Tw ?_|(refine Tm ?_;intro _)|exact Tz)
 refine WC.mainA [5,6,7] [(0,pt gS),(1,vC p q g h),(2,.pointer (some ⟨gS,18,none⟩)),(3,.slice (some ⟨b,o,none⟩) N.length c),(4,.int .i64 (N.length:Int))] (by decide) (fun A hA=>?_);refine WT.given [(1,.int .u64 (ep:Int)),(2,.int .u8 (d:Int)),(3,.slice pz l.length cz),(5,pt gS),(9,pt gX),(10,pt gD),(11,.int .i64 0)] [⟨gS,33,stC p q g h f sec (.slice (some ⟨b,o,none⟩) N.length c)⟩] (by kernel_rfl) (Tlv.a (Tlv.a (Tlv.a (Tlv.a (Tlv.a (Tlv.nil)))) (h:=by refine Qux.does ?_;exact zH (vs:=yB p q g h)))) (fun hc hT=>?_)
 suffices hS224:∀ gG,A [7,6,5] [(12,pt gG),(13,.int .i64 (N.length:Int)),(1,.int .u64 (ep:Int)),(2,.int .u8 (d:Int)),(3,.slice pz l.length cz),(5,pt gS),(9,pt gX),(10,pt gD),(11,.int .i64 0)] [⟨gG,26,yB p q g h⟩,⟨gD,47,dlC 0 0 (.slice none 0 0) (.slice none 0 0) (.slice none 0 0) 0 0⟩,⟨gX,24,zb x⟩,⟨gS,33,stC p q g h f sec (.slice (some ⟨b,o,none⟩) N.length c)⟩] by
  have hS96:∀ gG,A [6,5] [(12,pt gG),(1,.int .u64 (ep:Int)),(2,.int .u8 (d:Int)),(3,.slice pz l.length cz),(5,pt gS),(9,pt gX),(10,pt gD),(11,.int .i64 0)] [⟨gG,26,yB p q g h⟩,⟨gD,47,dlC 0 0 (.slice none 0 0) (.slice none 0 0) (.slice none 0 0) 0 0⟩,⟨gX,24,zb x⟩,⟨gS,33,stC p q g h f sec (.slice (some ⟨b,o,none⟩) N.length c)⟩]:=by
   intro gG;refine (hA _ _ _).2 (WT.step [7] (by decide) hc hT ⟨⟨_,rfl,?_⟩,trivial⟩)
   ·refine Tw ?_;exact WT.go [(13,.int .i64 (N.length:Int))] hA (hS224 gG)
  have hS32:∀ gG,A [5] [(12,pt gG),(1,.int .u64 (ep:Int)),(2,.int .u8 (d:Int)),(3,.slice pz l.length cz),(5,pt gS),(9,pt gX),(10,pt gD),(11,.int .i64 0)] [⟨gG,26,yB 0 0 0 0⟩,⟨gD,47,dlC 0 0 (.slice none 0 0) (.slice none 0 0) (.slice none 0 0) 0 0⟩,⟨gX,24,zb x⟩,⟨gS,33,stC p q g h f sec (.slice (some ⟨b,o,none⟩) N.length c)⟩]:=by
   intro gG;refine (hA _ _ _).2 (WT.step [6] (by decide) hc hT ⟨⟨_,rfl,?_⟩,trivial⟩)
   ·refine Tw ?_;exact WT.go [] hA (hS96 gG)
  have hS0:A [] [(1,.int .u64 (ep:Int)),(2,.int .u8 (d:Int)),(3,.slice pz l.length cz),(5,pt gS),(9,pt gX),(10,pt gD),(11,.int .i64 0)] [⟨gD,47,dlC 0 0 (.slice none 0 0) (.slice none 0 0) (.slice none 0 0) 0 0⟩,⟨gX,24,zb x⟩,⟨gS,33,stC p q g h f sec (.slice (some ⟨b,o,none⟩) N.length c)⟩]:=by
   refine (hA _ _ _).2 (WT.step [5] (by decide) hc hT ⟨⟨_,rfl,?_⟩,trivial⟩)
   ·(refine WO.autoM (k:=?_);intro gG);exact WT.go [(12,pt gG)] hA (hS32 gG)
  exact WT.less ((hA _ _ _).1 hS0) (by decide) (by repeat (first|exact Kle.nil|refine Kle.cons rfl rfl ?_)) (by repeat (first|exact Lle.nil|exact Lle.same|refine Lle.c ?_))
 intro gG;refine (hA _ _ _).2 (WT.fin [5,6,7] 6 hc rfl (by kernel_rfl) ?_);clear hc hT hA
 repeat (first|refine Ta ?_|(refine Tm ?_;intro _)|refine WO.acallX (hc:=hSh) (hR:=fun w1 hm=>hwY.mod hm.mod) (k:=fun s _=>?_)|refine Tc ?_|exact Tz)
 generalize s 0=gL;clear s
 repeat (first|refine Tw ?_|(refine Tm ?_;intro _)|exact Tz)
 refine WC.adraw 10 (k:=?_)
 iterate 3 (refine DQ.auto (k:=?_))
 refine DQ.makes (vf:=fun _ g=>.slice (some ⟨g,0,none⟩) N.length N.length) (t:=24) (cs:=fun _=>mkz N.length (zb 0)) (fun s _=>z6 (l:=N.length) (c:=N.length) rfl rfl (Nat.le_refl _) Om Om) Dp.const Dp.const ?_;refine DQ.auto (k:=?_);refine DQ.makes (vf:=fun _ g=>.slice (some ⟨g,0,none⟩) N.length N.length) (t:=24) (cs:=fun _=>mkz N.length (zb 0)) (fun s _=>z6 (l:=N.length) (c:=N.length) rfl rfl (Nat.le_refl _) Om Om) Dp.const Dp.const ?_;refine DQ.auto (k:=?_);refine DQ.makes (vf:=fun _ g=>.slice (some ⟨g,0,none⟩) N.length N.length) (t:=86) (cs:=fun _=>mkz N.length (y7 0 0)) (fun s _=>z6 (l:=N.length) (c:=N.length) rfl rfl (Nat.le_refl _) Om Om) Dp.const Dp.const ?_;refine DQ.auto (k:=?_);refine DQ.autoM (k:=?_);refine DQ.anil (k:=?_);intro sx _;generalize sx 3 0=gV;generalize sx 5 0=gY;generalize sx 7 0=gP;generalize sx 9 0=gE;clear sx
 repeat (first|refine Tw ?_|(refine Tm ?_;intro _)|exact Tz)
 refine WC.loopI (σ:=Nat) (fun i=>i≤N.length) (fun i=>[(1,.int .u64 (ep:Int)),(2,.int .u8 (d:Int)),(5,pt gS),(9,pt gX),(10,pt gD),(12,pt gG),(16,pt gE),(72,.slice (some ⟨gL,0,none⟩) N.length N.length),(73,.int .i64 (N.length:Int)),(74,.int .i64 (i:Int))])
  (fun i=>[⟨gV,24,VS p q g l N.length i⟩,⟨gY,24,YS p q N l N.length i⟩,⟨gP,86,PS p q g N ep d x l N.length i⟩,⟨gE,47,dlC ep d (.slice (some ⟨gV,0,none⟩) N.length N.length) (.slice (some ⟨gY,0,none⟩) N.length N.length) (.slice (some ⟨gP,0,none⟩) N.length N.length) 0 0⟩,
   ⟨gL,24,(shL q l N.length).flatMap zb⟩,⟨gG,26,yB p q g h⟩,⟨gX,24,zb x⟩,⟨gS,33,stC p q g h f sec (.slice (some ⟨b,o,none⟩) N.length c)⟩,⟨gD,47,dlC 0 0 (.slice none 0 0) (.slice none 0 0) (.slice none 0 0) 0 0⟩]) (fun i=>N.length - i) 0 (fun i hi=>?_) (Nat.zero_le _)
 try dsimp only at hi ⊢
 by_cases hli:i<N.length
 ·obtain⟨k2,hk2⟩ : ∃ k,N[i]?=some k:=⟨_,List.getElem?_eq_getElem hli⟩;have hkb:=hN k2 (List.mem_of_getElem? hk2);have hky:=aeg hk2;have hadd2:IntKind.i64.wrap ((i:Int)+1)=((i+1:Nat):Int):=zn Om Om Om;have hcv:IntKind.u8.wrap ((i+1:Nat):Int)=((i+1:Nat):Int):=u8_in Om Om;have hsb:shN q l i<zd:=Nat.lt_trans (ad0 hq0) hq;have hE1:=v7 p q g h g (shN q l i) hg hsb hp;have hE2:=v7 p q g h k2.2 (shN q l i) hkb.2 hsb hp;simp only[rE] at hE1 hE2;rw[show okV (yq p g) (g ^ shN q l i%p)=dV p q g l i from rfl] at hE1;rw[show okV (yq p k2.2) (k2.2 ^ shN q l i%p)=dY p q l N i by unfold dY exN;rw[hky]] at hE2;have hPd:dP p q g l N ep d x i=pfN p q g (shN q l i) k2.2 (vd q x (dH ep d (dV p q g l i) (dY p q l N i) i)):=by unfold dP;rw[hky]
  have hHlt:∀ b∈dH ep d (dV p q g l i) (dY p q l N i) i,b<256:=pg _ _;have hHl:(dH ep d (dV p q g l i) (dY p q l N i) i).length=32:=yW _ _;have hDr:=aap p q g h x (dH ep d (dV p q g l i) (dY p q l N i) i) hx hq hq0 hHlt hHl;have hPr:=abu p q g h uA (shN q l i) g k2.2 (vd q x (dH ep d (dV p q g l i) (dY p q l N i) i)) hp hq hsb hg hkb.2 (kl hq0 hq) (by decide);simp only[prV] at hPr
  rw[show okV (prB p q (shN q l i) g k2.2 (vd q x (dH ep d (dV p q g l i) (dY p q l N i) i))) (prC p q (yb uA) (shN q l i) g k2.2 (vd q x (dH ep d (dV p q g l i) (dY p q l N i) i)))=(dP p q g l N ep d x i).1 by rw[hPd];rfl,
   show okV (prB p q (shN q l i) g k2.2 (vd q x (dH ep d (dV p q g l i) (dY p q l N i) i))) ((vd q x (dH ep d (dV p q g l i) (dY p q l N i) i)+shN q l i*prC p q (yb uA) (shN q l i) g k2.2 (vd q x (dH ep d (dV p q g l i) (dY p q l N i) i))%q)%q)=(dP p q g l N ep d x i).2 by rw[hPd];rfl] at hPr
  have hoV:over (VS p q g l N.length i) (0+i*4) (zb (dV p q g l i))=VS p q g l N.length (i+1):=sk ya rfl hli;have hoY:over (YS p q N l N.length i) (0+i*4) (zb (dY p q l N i))=YS p q N l N.length (i+1):=sk ya rfl hli;have hoP:over (PS p q g N ep d x l N.length i) (0+i*8) (pfC (dP p q g l N ep d x i))=PS p q g N ep d x l N.length (i+1):=sk qd rfl hli;have hlV:Nat.ble (0+i*4+4) (VS p q g l N.length i).length=true:=rB ya rfl hli;have hlY:Nat.ble (0+i*4+4) (YS p q N l N.length i).length=true:=rB ya rfl hli;have hlP:Nat.ble (0+i*8+8) (PS p q g N ep d x l N.length i).length=true:=rB qd rfl hli;have hcV:cut (VS p q g l N.length (i+1)) (0+i*4) 4=zb (dV p q g l i):=nm ya;have hcY:cut (YS p q N l N.length (i+1)) (0+i*4) 4=zb (dY p q l N i):=nm ya;have hcL:cut ((shL q l N.length).flatMap zb) (0+i*4) 4=zb (shN q l i):=by rw[Nat.zero_add];exact zQ ya (abp hli)
  have hP0:=iw [] ep 8 0 none (by decide) (by decide);rw[List.nil_append,zk] at hP0;have hLo:=fun v g1=>qU [v] (some ⟨g1,0,none⟩) 1 (by simp) (by show 1≤8589934592;omega);have hb1:∀ v,[v].flatMap (be 32)=be 32 v:=fun v=>by simp
  simp only[hb1,zk] at hLo;have hO:=fun g1 c1 g2 g3 gR=>c9 uA [.slice (some ⟨g1,0,none⟩) 10 c1,.slice (some ⟨g2,0,none⟩) 32 32,.slice (some ⟨g3,0,none⟩) 32 32] [abL ep d (i+1),be 32 (dV p q g l i),be 32 (dY p q l N i)] gR 0 3 (by
   intro X hX;simp only[List.mem_cons,List.not_mem_nil,or_false] at hX
   rcases hX with rfl|rfl|rfl
   ·exact adP
   ·exact tj
   ·exact tj) (by
   simp only[yJ,tc,yM,List.flatMap_cons,List.flatMap_nil,List.length_append,zk,yD,List.length_nil,tS];decide) (by decide)
  rw[show hOf (yb uA) [abL ep d (i+1),be 32 (dV p q g l i),be 32 (dY p q l N i)]=dH ep d (dV p q g l i) (dY p q l N i) i from rfl] at hO;have hHlen:(byC (dH ep d (dV p q g l i) (dY p q l N i) i)).length=32:=by rw[ze,hHl]
  clear hPd hHlt hHl hb1 hN;generalize vd q x (dH ep d (dV p q g l i) (dY p q l N i) i)=D at *;generalize dH ep d (dV p q g l i) (dY p q l N i) i=H at *;generalize dV p q g l i=v at *;generalize dY p q l N i=y at *;generalize dP p q g l N ep d x i=pf at *;generalize shN q l i=sh at *;generalize hV2:VS p q g l N.length (i+1)=V2 at *;generalize hY2:YS p q N l N.length (i+1)=Y2 at *;generalize hP2:PS p q g N ep d x l N.length (i+1)=P2 at *;generalize VS p q g l N.length i=V1 at *;generalize YS p q N l N.length i=Y1 at *;generalize PS p q g N ep d x l N.length i=P1 at *
  repeat (first|refine Tw ?_|(refine Tm ?_;intro _)|exact Tz)
  refine WC.dT rfl Om ?_
  repeat (first|refine Ta ?_|(refine Tm ?_;intro _)|refine WO.does (zc (o':=0+i*4) rfl rfl hli rfl) ?_|refine WO.does (zH (vs:=zb sh) (hc:=hcL)) ?_|refine WO.does (zc (o':=o+i*8) rfl rfl hli rfl) ?_|refine WO.does (zm (vs:=zb k2.2) (hs:=hs) (hle:=by omega) (hc:=cQ hk2)) ?_|refine Tc ?_|exact Tz)
  rename_i g18 g19;refine WC.adrawF [10] 12 (k:=?_)
  repeat (first|refine Da ?_|refine DQ.acall (hc:=hE1) (k:=?_)|refine DQ.does (fun s _=>zc (o':=0+i*4) rfl rfl hli rfl) Dp.const ?_|refine Df ?_)
  refine DQ.anil (k:=?_);intro sx _;refine WO.stores (zz (vs:=zb v) (cs':=V2) (hc:=hoV) (hle:=hlV)) ?_
  repeat (first|refine Tw ?_|(refine Tm ?_;intro _)|exact Tz)
  refine WC.adrawF [9] 11 (k:=?_)
  repeat (first|refine Da ?_|refine DQ.acall (hc:=hE2) (k:=?_)|refine DQ.does (fun s _=>zc (o':=0+i*4) rfl rfl hli rfl) Dp.const ?_|refine Df ?_)
  refine DQ.anil (k:=?_);intro sx _;refine WO.stores (zz (vs:=zb y) (cs':=Y2) (hc:=hoY) (hle:=hlY)) ?_
  repeat (first|refine Tw ?_|(refine Tm ?_;intro _)|exact Tz)
  refine WC.adraw 25 (k:=?_);refine DQ.auto (k:=?_);refine DQ.acallS (hc:=hP0) (hR:=fun _=>Rd.nil) (k:=?_)
  iterate 2 (refine DQ.auto (k:=?_))
  refine DQ.does (fun s _=>zi rfl rfl hadd2) Dp.const ?_;refine DQ.does (fun s _=>zD rfl hcv) Dp.const ?_;refine DQ.makes (vf:=fun _ g=>.slice (some ⟨g,0,none⟩) 2 2) (t:=5) (cs:=fun _=>[.int .u8 (d:Int),.int .u8 ((i+1:Nat):Int)]) (fun s _=>zh rfl (by decide) rfl) Dp.const Dp.const ?_
  refine DQ.newsE (vf:=fun _ x=>.slice (some ⟨x 0,0,none⟩) 10 (x 1)) (Nf:=fun _ x=>[⟨x 0,5,byC (be 8 ep)++[.int .u8 (d:Int),.int .u8 ((i+1:Nat):Int)]++mkz (x 1 - 10) [.int .u8 0]⟩]) (S:=fun _ x=>10≤x 1∧x 1<9223372036854775808)
   (fun s=>[⟨s 6 0,5,[.int .u8 (d:Int),.int .u8 ((i+1:Nat):Int)]⟩,⟨s 1 0,5,byC (be 8 ep)⟩]) (fun s=>.cons 6 (.head _) (by decide +kernel) (.cons 1 (by repeat (first|exact .head _|apply List.Mem.tail)) (by decide +kernel) .nil)) (fun _=>⟨fun _=>10,by decide,by decide⟩)
   (fun s _=>uy (z:=[Value.int .u8 0]) (len:=8) (n:=2) rfl rfl (ys:=byC (be 8 ep)) (Rds.own (m:=8) (Hs.there Hs.here) (zA (by rw[ze,zk]))) (by rw[ze,zk];rfl) (xs:=[.int .u8 (d:Int),.int .u8 ((i+1:Nat):Int)]) (Rds.own (m:=2) Hs.here rfl) rfl (by decide) (by decide) (by decide) (by decide) rfl) Dp.const Dp.const Dp.const ?_
  try dsimp only[List.map_cons,List.map_nil,List.cons_append,List.nil_append]
  iterate 3 (refine DQ.auto (k:=?_))
  refine DQ.does (fun s _=>zc (o':=0+i*4) rfl rfl hli rfl) Dp.const ?_;refine DQ.does (fun s _=>zH (vs:=zb v) (hc:=hcV)) Dp.const ?_;refine DQ.makes (vf:=fun _ g=>.slice (some ⟨g,0,none⟩) 1 1) (t:=24) (cs:=fun _=>zb v) (fun s _=>zh rfl (by decide) rfl) Dp.const Dp.const ?_;refine DQ.acallSE (vs:=fun s=>[.slice (some ⟨s 13 0,0,none⟩) 1 1]) (fun s=>[⟨s 13 0,24,zb v⟩]) (fun s=>.cons 13 (.head _) (by decide +kernel) .nil) (fun s _=>hLo v (s 13 0)) (fun s _ w hm=>RdF.seg (f:=zb) (xs:=[v]) (r:=[]) (Hs.seg Hs.here hm)) (fun s=>rfl) ?_
  iterate 3 (refine DQ.auto (k:=?_))
  refine DQ.does (fun s _=>zc (o':=0+i*4) rfl rfl hli rfl) Dp.const ?_;refine DQ.does (fun s _=>zH (vs:=zb y) (hc:=hcY)) Dp.const ?_;refine DQ.makes (vf:=fun _ g=>.slice (some ⟨g,0,none⟩) 1 1) (t:=24) (cs:=fun _=>zb y) (fun s _=>zh rfl (by decide) rfl) Dp.const Dp.const ?_;refine DQ.acallSE (vs:=fun s=>[.slice (some ⟨s 20 0,0,none⟩) 1 1]) (fun s=>[⟨s 20 0,24,zb y⟩]) (fun s=>.cons 20 (.head _) (by decide +kernel) .nil) (fun s _=>hLo y (s 20 0)) (fun s _ w hm=>RdF.seg (f:=zb) (xs:=[y]) (r:=[]) (Hs.seg Hs.here hm)) (fun s=>rfl) ?_;refine DQ.makes (vf:=fun _ g=>.slice (some ⟨g,0,none⟩) 3 3) (t:=105) (cs:=fun s=>[.slice (some ⟨s 7 0,0,none⟩) 10 (s 7 1),.slice (some ⟨s 14 0,0,none⟩) 32 32,.slice (some ⟨s 21 0,0,none⟩) 32 32]) (fun s _=>zh rfl (by decide) rfl) Dp.const (by intro s s' h;dsimp only;rw[h,h,h]<;>decide +kernel) ?_
  refine DQ.callE (v:=fun _=>.agg (byC H).toArray) (fun s=>[⟨s 22 0,105,[.slice (some ⟨s 7 0,0,none⟩) 10 (s 7 1),.slice (some ⟨s 14 0,0,none⟩) 32 32,.slice (some ⟨s 21 0,0,none⟩) 32 32]⟩,⟨s 21 0,5,byC (be 32 y)⟩,⟨s 14 0,5,byC (be 32 v)⟩,⟨s 7 0,5,byC (be 8 ep)++[.int .u8 (d:Int),.int .u8 ((i+1:Nat):Int)]++mkz (s 7 1 - 10) [.int .u8 0]⟩])
   (fun s=>.cons 22 (.head _) (by decide +kernel) (.cons 21 (by repeat (first|exact .head _|apply List.Mem.tail)) (by decide +kernel) (.cons 14 (by repeat (first|exact .head _|apply List.Mem.tail)) (by decide +kernel) (.cons 7 (by repeat (first|exact .head _|apply List.Mem.tail)) (by decide +kernel) .nil)))) (fun s _=>hO (s 7 0) (s 7 1) (s 14 0) (s 21 0) (s 22 0)) (fun s=>rfl)
   (fun s hC w hm=>⟨Hs.seg Hs.here hm,zV.cons (by
     have hab:=RdP.own (g:=s 7 0) (c:=s 7 1) (X:=abL ep d (i+1)) (r:=mkz (s 7 1 - 10) [Value.int .u8 0]) (t:=5) hm (by rw[← em hd Om];exact Hs.there (Hs.there (Hs.there Hs.here))) (by rw[tS];exact hC.1.1.2.1) hC.1.1.2.2;rw[tS] at hab;exact hab) (zV.cons (by have:=RdP.own0 (g:=s 14 0) (c:=32) (X:=be 32 v) (t:=5) hm (Hs.there (Hs.there Hs.here)) (by rw[zk];decide) (by decide);rw[zk] at this;exact this) (zV.cons (by have:=RdP.own0 (g:=s 21 0) (c:=32) (X:=be 32 y) (t:=5) hm (Hs.there Hs.here) (by rw[zk];decide) (by decide);rw[zk] at this;exact this) zV.nil))⟩) Dp.const ?_
  refine DQ.autoM (k:=?_);refine DQ.anil (k:=?_);intro sx _;refine WO.stores (zz (vs:=byC H) (cs':=byC H) (hl:=hHlen) (h1:=zT _) (hc:=zU (by rw[hHlen];rfl)) (hle:=by rw[hHlen];rfl)) ?_;generalize sx 24 0=gH
  repeat (first|refine Tw ?_|(refine Tm ?_;intro _)|exact Tz)
  refine WC.adrawF [15] 17 (k:=?_)
  repeat (first|refine Da ?_|refine DQ.does (fun s _=>zH (vs:=byC H) (hc:=zA hHlen) (hl:=hHlen)) Dp.const ?_|refine DQ.acall (hc:=hDr) (k:=?_)|refine DQ.acall (hc:=hPr) (k:=?_)|refine DQ.does (fun s _=>zc (o':=0+i*8) rfl rfl hli rfl) Dp.const ?_|refine Df ?_)
  refine DQ.anil (k:=?_);intro sx _;refine WO.stores (zz (vs:=pfC pf) (cs':=P2) (hc:=hoP) (hle:=hlP)) ?_
  repeat (first|refine Ta ?_|(refine Tm ?_;intro _)|refine WO.does (zi rfl rfl hadd2) ?_|refine Tc ?_|exact Tz)
  subst hV2 hY2 hP2;exact WX.metI (i+1) (hs:=⟨by show i+1≤N.length;omega,by show N.length - (i+1)<N.length - i;omega⟩)
 ·have hi2:i=N.length:=by omega
  subst hi2;have hVn:VS p q g l N.length N.length=(dVs p q g l N.length).flatMap zb:=by unfold VS dVs;rw[Nat.sub_self,show mkz 0 (zb 0)=[] from rfl,List.append_nil]
  have hYn:YS p q N l N.length N.length=(dYs p q l N N.length).flatMap zb:=by unfold YS dYs;rw[Nat.sub_self,show mkz 0 (zb 0)=[] from rfl,List.append_nil]
  have hPn:PS p q g N ep d x l N.length N.length=(dPs p q g l N ep d x N.length).flatMap pfC:=by unfold PS dPs;rw[Nat.sub_self,show mkz 0 (y7 0 0)=[] from rfl,List.append_nil]
  have hVl:(dVs p q g l N.length).length=N.length:=by simp[dVs]
  have hYl:(dYs p q l N N.length).length=N.length:=by simp[dYs]
  have hPl:(dPs p q g l N ep d x N.length).length=N.length:=by simp[dPs]
  have hne:∀ {α:Type} {xs:List α},xs.length=N.length→xs≠[]:=fun h e=>by rw[e] at h;simp at h;omega
  have hH:=fun gV gY gP=>u9 ep d 0 0 (some ⟨gV,0,none⟩) (some ⟨gY,0,none⟩) (some ⟨gP,0,none⟩) N.length N.length N.length (dVs p q g l N.length) (dYs p q l N N.length) (dPs p q g l N ep d x N.length) hd (hne hVl) (hne hYl) (hne hPl) Om Om Om;rw[hVl,hYl,hPl] at hH;rw[show yN ep d (dVs p q g l N.length) (dYs p q l N N.length) (dPs p q g l N ep d x N.length)=dHs p q g l N ep d x N.length from rfl] at hH;have hHlt:∀ b∈dHs p q g l N ep d x N.length,b<256:=pg _ _;have hHl:(dHs p q g l N ep d x N.length).length=32:=yW _ _;have hDr:=aap p q g h x (dHs p q g l N ep d x N.length) hx hq hq0 hHlt hHl;have hSg:=adO p q g h x (vd q x (dHs p q g l N ep d x N.length)) (dHs p q g l N ep d x N.length) hp hq hg hx (kl hq0 hq) hHlt hHl;simp only[prV] at hSg
  rw[show okV (sgB p q g x (vd q x (dHs p q g l N ep d x N.length))) (sgC p q g x (vd q x (dHs p q g l N ep d x N.length)) (dHs p q g l N ep d x N.length))=(dSg p q g l N ep d x N.length).1 from rfl,
   show okV (sgB p q g x (vd q x (dHs p q g l N ep d x N.length))) ((vd q x (dHs p q g l N ep d x N.length)+x*sgC p q g x (vd q x (dHs p q g l N ep d x N.length)) (dHs p q g l N ep d x N.length)%q)%q)=(dSg p q g l N ep d x N.length).2 from rfl] at hSg
  have hHlen:(byC (dHs p q g l N ep d x N.length)).length=32:=by rw[ze,hHl]
  rw[hVn,hYn,hPn];clear hVn hYn hPn hHlt hHl hne hN;generalize vd q x (dHs p q g l N ep d x N.length)=D at *;generalize dHs p q g l N ep d x N.length=H at *;generalize dSg p q g l N ep d x N.length=sg at *;generalize dVs p q g l N.length=Vs at *;generalize dYs p q l N N.length=Ys at *;generalize dPs p q g l N ep d x N.length=Ps at *
  repeat (first|refine Tw ?_|(refine Tm ?_;intro _)|exact Tz)
  refine WC.dF rfl Om ?_
  repeat (first|refine Ta ?_|(refine Tm ?_;intro _)|refine WO.acallR (hc:=hH gV gY gP) (hR:=fun w1 hm=>⟨by have:=RdF.seg (f:=zb) (xs:=Vs) (r:=[]) (c:=N.length) (Hs.seg (L:=_) (g:=gV) (t:=24) (by rw[List.append_nil];repeat (first|exact Hs.here|apply Hs.there)) hm);rw[hVl] at this;exact this,by have:=RdF.seg (f:=zb) (xs:=Ys) (r:=[]) (c:=N.length) (Hs.seg (L:=_) (g:=gY) (t:=24) (by rw[List.append_nil];repeat (first|exact Hs.here|apply Hs.there)) hm);rw[hYl] at this;exact this,by have:=RdF.seg (f:=pfC) (xs:=Ps) (r:=[]) (c:=N.length) (Hs.seg (L:=_) (g:=gP) (t:=86) (by rw[List.append_nil];repeat (first|exact Hs.here|apply Hs.there)) hm);rw[hPl] at this;exact this⟩) (k:=?_)|refine Tc ?_|exact Tz)
  refine WO.stores (zz (vs:=byC H) (cs':=byC H) (hl:=hHlen) (h1:=zT _) (hc:=zU (by rw[hHlen];rfl)) (hle:=by rw[hHlen];rfl)) ?_
  repeat (first|refine Tw ?_|(refine Tm ?_;intro _)|exact Tz)
  refine WC.adrawF [10] 12 (k:=?_)
  repeat (first|refine Da ?_|refine DQ.does (fun s _=>zH (vs:=byC H) (hc:=zA hHlen) (hl:=hHlen)) Dp.const ?_|refine DQ.acall (hc:=hDr) (k:=?_)|refine DQ.acall (hc:=hSg) (k:=?_)|refine Df ?_)
  refine DQ.anil (k:=?_);intro sx _
  repeat (first|refine Tw ?_|(refine Tm ?_;intro _)|exact Tz)
  exact WX.ret2 rfl (by exact uw) (by exact zo rfl) [⟨gP,86,Ps.flatMap pfC⟩,⟨gY,24,Ys.flatMap zb⟩,⟨gV,24,Vs.flatMap zb⟩] (by repeat (first|exact Lle.nil|refine Lle.c ?_)) ⟨fun i=>if i=0 then gV else if i=1 then gY else gP,rfl,rfl,trivial⟩
end
end Sx
end
end Go.Proofs.YtiiefkchpicncaaGreatDoor
