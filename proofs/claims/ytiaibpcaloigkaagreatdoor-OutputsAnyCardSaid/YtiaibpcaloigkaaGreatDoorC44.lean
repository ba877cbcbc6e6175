/- Part 44 of the proof. -/
import Derived.Test.YtiaibpcaloigkaaGreatDoorC43
import Derived.Test.YtiaibpcaloigkaaGreatDoorC37
set_option linter.unusedSimpArgs false
set_option linter.unusedVariables false
set_option maxHeartbeats 8000000
namespace Go.Proofs.YtiaibpcaloigkaaGreatDoor
section
open Go Go.RowKit Go.BigFrame
namespace Sx
attribute [local irreducible] DQ WC WO WX wd
theorem afZ {q:Nat} {ds:LN}:iE (prM q 1 ds) q=if aak q ds=true then 0 else 7:=by
 unfold iE
 by_cases h:aak q ds=true
 ·rw[if_pos h,if_pos ((ol q ds 1).2 ⟨Nat.gcd_one_left q,h⟩)]
 ·rw[if_neg h,if_neg (fun e=>h ((ol q ds 1).1 e).2)]
theorem abA {q:Nat} {l:LN} {i:Nat} (h:wtE q l i=0):wtE q l (i+1)=if aak q (dif q l i (l.getD i 0) l.length)=true then 0 else 7:=by
 rw[jY,h,afZ];rfl
abbrev iK (k:Nat):List Value:=[.int .i64 (k:Int)]
theorem jL {l:LN} {i x o:Nat} (h:l[i]?=some x):(l.flatMap iK)[o+i*1 - o]?=some (.int .i64 (x:Int)):=by
 rw[Nat.add_sub_cancel_left,Nat.mul_one];have e:l.flatMap iK=l.map (fun k:Nat=>Value.int .i64 (k:Int)):=by
  induction l generalizing i with
  | nil=>rfl
  | cons a r ih =>
   rw[List.flatMap_cons,List.map_cons];have:r.flatMap iK=r.map (fun k:Nat=>Value.int .i64 (k:Int)):=by
    clear ih h
    induction r with
    | nil=>rfl
    | cons a r ih=>rw[List.flatMap_cons,List.map_cons,ih];rfl
   rw[this];rfl
 rw[e,List.getElem?_map,h];rfl
theorem acy (l:LN) (pt:Option Addr) (c x:Nat) (hne:x ∉ l) (hn:l.length≤1000) :
  Fn Tryz.prog 252 [.slice pt l.length c,.int .i64 (x:Int)] (RdF iK (.slice pt l.length c) l) (Is (.int .i64 (-1))):=by
 refine Fn.enter Tryz.func252 rfl rfl rfl ?_;intro w hw
 repeat (first|refine Tk ?_|intro _|exact Tz)
 refine WC.loopI (σ:=Nat) (fun i=>i≤l.length) (fun i=>[(0,.slice pt l.length c),(1,.int .i64 (x:Int)),(7,.int .i64 (l.length:Int)),(8,.int .i64 (i:Int))]) (fun i=>[]) (fun i=>l.length - i) 0 (fun i hi=>?_) (Nat.zero_le _)
 try dsimp only at hi ⊢
 by_cases hlt:i<l.length
 ·obtain⟨y,hy⟩ : ∃ y,l[i]?=some y:=⟨_,List.getElem?_eq_getElem hlt⟩;have hym:=List.mem_of_getElem? hy;have hxy:(x:Int)≠(y:Int):=fun e=>hne ((Int.ofNat_inj.1 e) ▸ hym);obtain⟨b,o,rfl,_,hs⟩:=id hw |>.get hy
  have hadd2:IntKind.i64.wrap ((i:Int)+1)=((i+1:Nat):Int):=zo Om Om Om;have hcx:=jL (o:=o) hy
  repeat (first|refine Tk ?_|intro _|exact Tz)
  refine WC.dT rfl Om ?_
  repeat (first|refine WO.does (zb (o':=o+i*1) rfl rfl hlt rfl) ?_|refine WO.does (zn (hs:=hs) (hle:=Nat.le_add_right _ _) (hc:=hcx)) ?_|refine WO.does (zQ rfl rfl hxy) ?_|refine WO.does (ze rfl rfl hadd2) ?_|refine Tj ?_|intro _|refine Tc ?_|exact Tz)
  exact WX.metI (i+1) (hs:=⟨by show i+1≤l.length;omega,by show l.length - (i+1)<l.length - i;omega⟩)
 ·have hi2:i=l.length:=by omega
  subst hi2
  repeat (first|refine Tk ?_|intro _|exact Tz)
  refine WC.dF rfl Om ?_
  repeat (first|refine Tk ?_|intro _|exact Tz)
theorem aeE (l:LN) (pt:Option Addr) (c x:Nat) (hne:x ∉ l) (hn:l.length≤1000) :
  Fn Tryz.prog 210 [.slice pt l.length c,.int .i64 (x:Int)] (RdF iK (.slice pt l.length c) l) (Is (.bool false)):=by
 have hI:=acy l pt c x hne hn;refine Fn.enter Tryz.func210 rfl rfl rfl ?_;intro w hw
 repeat (first|refine Tj ?_|intro _|refine WO.acallR (hc:=hI) (hR:=fun w1 hm=>hw.mod hm.mod) (k:=?_)|refine WO.does (yj rfl rfl Dt) ?_|refine Tc ?_|exact Tz)
theorem agC {q:Nat} {l:LN} {x:Nat} (h1:1<q):∀ v∈wts q l x,v<q:=fun v hv=>by
 obtain⟨i,_,rfl⟩:=List.mem_map.1 hv;exact afX h1
theorem dk {q:Nat} {l:LN} {x:Nat}:(wts q l x).length=l.length:=by simp[wts]
section
variable (p q g h:Nat)
theorem ab0 (ks zs:LN) (pa pz:Option Addr) (cA cZ i a z gA gG gP:Nat) (ha:ks[i]?=some a) (hz:zs[i]?=some z) (hnd:ks.Nodup) (ha7:a<7) (hcap:ks.length≤cA) (hn:ks.length≤7) (hm:yw p z=true) (hzb:z<zd) (haq:a+1<q) (hq:q<zd) (hp:p<zd) :
  Fn Tryz.prog 209 ([.int .i64 (i:Int)]++[pt gA,pt gG,pt gP])
   (fun w=>Seg w gA 0 [.slice pa ks.length cA]∧Seg w gG 0 (yu p q g h)∧Seg w gP 0 [.slice pz zs.length cZ]∧RdF iK (.slice pa ks.length cA) ks w∧RdF zc (.slice pz zs.length cZ) zs w) (Is (.tuple #[zj (a+1),.int .i64 0])):=by
 have hia:=(List.getElem?_eq_some_iff.1 ha).1;have hiz:=(List.getElem?_eq_some_iff.1 hz).1;have hxn:a ∉ ks.take i:=fun hm=>by
  obtain⟨j,hj⟩:=List.getElem?_of_mem hm;have hji:j<i:=by
   have:j<(ks.take i).length:=by
    rcases Nat.lt_or_ge j (ks.take i).length with h|h
    ·exact h
    ·rw[List.getElem?_eq_none h] at hj;cases hj
   rw[List.length_take] at this;omega
  rw[List.getElem?_take,if_pos hji] at hj;obtain⟨k1,e1⟩:=List.getElem?_eq_some_iff.1 hj;obtain⟨k2,e2⟩:=List.getElem?_eq_some_iff.1 ha;exact List.pairwise_iff_getElem.1 hnd j i k1 k2 hji (e1.trans e2.symm)
 have hlt2:(ks.take i).length=i:=by rw[List.length_take];omega
 have hC:=fun c'=>aeE (ks.take i) pa c' a hxn Om;rw[hlt2] at hC;have hE:=vd p q g h z 0 hzb Dt hp;rw[hm] at hE;simp only[rE,okV,okE,if_true] at hE;have h1:=i2 a Om;have h2:=qS p q g h (a+1) Om hq;rw[oh q (a+1) Om,Nat.mod_eq_of_lt haq] at h2;have hN:=dN;generalize z ^ 0%p=Z0 at *;refine Fn.enter Tryz.func209 rfl rfl rfl ?_;intro w hw;obtain⟨wA,wG,wP,wL,wZ⟩:=hw;obtain⟨bA,oA,e,_,hsA⟩:=id wL |>.get ha
 subst e;obtain⟨bZ,oZ,e,_,hsZ⟩:=id wZ |>.get hz
 subst e;have hca:=jL (o:=oA) ha;have hcz:cut (zs.flatMap zc) (oZ+i*4 - oZ) 4=zc z:=by rw[Nat.add_sub_cancel_left];exact yh (f:=zc) (k:=4) (fun _=>rfl) hz
 repeat (first|refine Tk ?_|intro _|exact Tz)
 refine WC.adraw 22 (k:=?_)
 iterate 22 (first|refine DQ.does (fun s _=>zn (hs:=wA) (hle:=Nat.zero_le _)) Dp.const ?_|refine DQ.does (fun s _=>zb (o':=oA+i*1) rfl rfl hia rfl) Dp.const ?_|refine DQ.does (fun s _=>zn (hs:=hsA) (hle:=Nat.le_add_right _ _) (hc:=hca)) Dp.const ?_|refine DQ.does (fun s _=>zO rfl rfl Om) Dp.const ?_|refine DQ.does (fun s _=>yj rfl rfl Om) Dp.const ?_|refine DQ.does (fun s _=>yv (h:=i) rfl rfl Om) Dp.const ?_|refine DQ.acallM (hc:=hC cA) (hR:=fun w1 hm=>(wL.mod hm.mod).take Om) (k:=?_)|refine Da ?_|refine Dc ?_)
 refine DQ.anil (k:=?_);intro sx _
 repeat (first|refine Tk ?_|intro _|exact Tz)
 refine WC.adrawF [9] 11 (k:=?_)
 repeat (first|refine Da ?_|refine DQ.does (fun s _=>zk (hs:=wG) (hle:=Nat.le_refl _) (vs:=yu p q g h)) Dp.const ?_|refine DQ.does (fun s _=>zn (hs:=wP) (hle:=Nat.zero_le _)) Dp.const ?_|refine DQ.does (fun s _=>zb (o':=oZ+i*4) rfl rfl hiz rfl) Dp.const ?_|refine DQ.does (fun s _=>zk (vs:=zc z) (hs:=hsZ) (hle:=Nat.le_add_right _ _) (hc:=hcz)) Dp.const ?_|refine DQ.acall (hc:=hE) (k:=?_)|refine Df ?_)
 refine DQ.anil (k:=?_);intro sx _
 repeat (first|refine Tk ?_|intro _|exact Tz)
 refine WC.adrawF [9] 10 (k:=?_)
 repeat (first|refine Da ?_|refine DQ.does (fun s _=>zk (hs:=wG) (hle:=Nat.le_refl _) (vs:=yu p q g h)) Dp.const ?_|refine DQ.does (fun s _=>zn (hs:=wA) (hle:=Nat.zero_le _)) Dp.const ?_|refine DQ.does (fun s _=>zb (o':=oA+i*1) rfl rfl hia rfl) Dp.const ?_|refine DQ.does (fun s _=>zn (hs:=hsA) (hle:=Nat.le_add_right _ _) (hc:=hca)) Dp.const ?_|refine DQ.acall (hc:=hN) (k:=?_)|refine DQ.acallV (hc:=h1) (k:=?_)|refine DQ.acall (hc:=h2) (k:=?_)|refine Df ?_)
 refine DQ.anil (k:=?_);intro sx _
 repeat (first|refine Tk ?_|intro _|exact Tz)
 done
end
theorem RdF.own {α:Type} {f:α→List Value} {xs:List α} {w:World} {g n c:Nat} (hs:Seg w g 0 (xs.flatMap f)) (hn:xs.length=n):RdF f (AX g n c) xs w:=by
 subst hn;exact⟨_,_,rfl,.inr ⟨g,0,rfl,hs⟩⟩
def rsN (p q:Nat) (ps zs:LN) (j:Nat):Nat:=prD p zs (wts q ps (q - (j+1)))
def rsL (p q:Nat) (ps zs:LN) (m:Nat):List Nat:=(List.range m).map (rsN p q ps zs)
section
variable (p q g h:Nat)
section
variable (ps zs:LN) (pe pz:Option Addr) (cE cZ j gG gE gP:Nat)
theorem acq (hP:qj q ps) (hcap:ps.length≤cE) (hz:aai p zs) (hl:zs.length=ps.length) (hj:j+1<q) (hj2:j<900) (hp:p<zd) (hq:q<zd) (h1:1<p) (he:wtE q ps ps.length=0) :
  Fn Tryz.prog 211 ([.int .i64 (j:Int)]++[pt gG,pt gE,pt gP])
   (fun w=>Seg w gG 0 (yu p q g h)∧Seg w gE 0 [.slice pe ps.length cE]∧Seg w gP 0 [.slice pz zs.length cZ]∧RdF zc (.slice pe ps.length cE) ps w∧RdF zc (.slice pz zs.length cZ) zs w) (Is (.tuple #[zj (rsN p q ps zs j),.int .i64 0])):=by
 have h2:=su j Om;have h3:=oC p q g h (j+1) Om Om hj hq;have hW0:=lp p q g h ps pe cE (q - (j+1)) hP hcap Om Om hq;have hW:Fn Tryz.prog 212 [vg p q g h,.slice pe ps.length cE,zj (q - (j+1))] (RdF zc (.slice pe ps.length cE) ps) (Ex (fun s=>.tuple #[AX (s 0) ps.length ps.length,.int .i64 0]) (fun s=>[⟨s 0,24,(wts q ps (q - (j+1))).flatMap zc⟩]) (fun _=>True)):=by
  refine hW0.weak (fun w hw=>hw) (fun v N hv=>?_)
  rcases hv with ⟨h,_⟩|⟨_,g,h,h'⟩
  ·exact absurd he h
  ·exact⟨fun _=>g,h,h',trivial⟩
 clear hW0;have hPr:=fun pn=>se p q g h hp h1 zs (wts q ps (q - (j+1))) hz (fun v hv=>Nat.lt_trans (agC Om v hv) hq) (by rw[dk,hl]) (fun e=>hP.ne (List.length_eq_zero_iff.1 (by rw[← hl,e];rfl))) pz pn cZ ps.length (by have:=hP.len;omega);rw[show prD p zs (wts q ps (q - (j+1)))=rsN p q ps zs j from rfl] at hPr;have hwl:(wts q ps (q - (j+1))).length=ps.length:=dk;generalize hws:wts q ps (q - (j+1))=ws at *;generalize rsN p q ps zs j=V at *;have hN:=rA;refine Fn.enter Tryz.func211 rfl rfl rfl ?_;intro w hw;obtain⟨wG,wE,wP,wL,wZ⟩:=hw
 repeat (first|refine Tk ?_|intro _|exact Tz)
 refine WC.adraw 14 (k:=?_)
 iterate 8 (first|refine DQ.does (fun s _=>zk (hs:=wG) (hle:=Nat.le_refl _) (vs:=yu p q g h)) Dp.const ?_|refine DQ.does (fun s _=>zn (hs:=wE) (hle:=Nat.zero_le _)) Dp.const ?_|refine DQ.acallV (hc:=h2) (k:=?_)|refine DQ.acall (hc:=hN) (k:=?_)|refine DQ.acall (hc:=h3) (k:=?_)|refine Da ?_|refine Dc ?_)
 refine DQ.callsE (fs:=fun _=>[]) (cs:=fun _=>[]) (R:=fun _=>RdF zc (.slice pe ps.length cE) ps) (vf:=fun _ x=>.tuple #[AX (x 0) ps.length ps.length,.int .i64 0]) (Nf:=fun _ x=>[⟨x 0,24,ws.flatMap zc⟩]) (S:=fun _ _=>True) (fun _=>[]) (fun _=>.nil)
  (fun _=>⟨fun _=>0,trivial⟩) (fun _ _=>hW) (fun _=>rfl) (fun _=>rfl) (fun _=>by simp) (fun _ _ w hm=>wL.mod hm.mod) Dp.const Dp.const Dp.const ?_
 try dsimp only[List.map_cons,List.map_nil,List.cons_append,List.nil_append]
 iterate 5 (refine DQ.auto (k:=?_))
 refine DQ.anil (k:=?_);intro sx _;generalize sx 8 0=g0;rw[hl] at hPr;have wP' : Seg w gP 0 [.slice pz ps.length cZ]:=by rw[← hl];exact wP
 have wZ' : RdF zc (.slice pz ps.length cZ) zs w:=by rw[← hl];exact wZ
 clear wP wZ
 repeat (first|refine WO.does (zk (hs:=wG) (hle:=Nat.le_refl _) (vs:=yu p q g h)) ?_|refine WO.does (zn (hs:=wP') (hle:=Nat.zero_le _)) ?_|refine Tj ?_|intro _|refine WO.acallR (hc:=hPr _) (hR:=fun w1 hm=>⟨wZ'.mod hm.mod,RdF.own (Hs.sg hm) hwl⟩) (k:=?_)|refine Tc ?_|exact Tz)
 done
theorem ab (hP:qj q ps) (hcap:ps.length≤cE) (hj:j+1<q) (hj2:j<900) (hq:q<zd) (he:wtE q ps ps.length≠0) :
  Fn Tryz.prog 211 ([.int .i64 (j:Int)]++[pt gG,pt gE,pt gP])
   (fun w=>Seg w gG 0 (yu p q g h)∧Seg w gE 0 [.slice pe ps.length cE]∧Seg w gP 0 [.slice pz zs.length cZ]∧RdF zc (.slice pe ps.length cE) ps w∧RdF zc (.slice pz zs.length cZ) zs w) (Is (.tuple #[zj 0,.int .i64 7])):=by
 have h2:=su j Om;have h3:=oC p q g h (j+1) Om Om hj hq;have hW0:=lp p q g h ps pe cE (q - (j+1)) hP hcap Om Om hq;have hW:Fn Tryz.prog 212 [vg p q g h,.slice pe ps.length cE,zj (q - (j+1))] (RdF zc (.slice pe ps.length cE) ps) (Is (.tuple #[.slice none 0 0,.int .i64 7])):=by
  refine hW0.weak (fun w hw=>hw) (fun v N hv=>?_)
  rcases hv with ⟨_,h,_⟩|⟨h,_⟩
  ·exact h
  ·exact absurd h he
 clear hW0;have hN:=rA;refine Fn.enter Tryz.func211 rfl rfl rfl ?_;intro w hw;obtain⟨wG,wE,wP,wL,wZ⟩:=hw
 repeat (first|refine Tk ?_|intro _|exact Tz)
 refine WC.adraw 14 (k:=?_)
 iterate 14 (first|refine DQ.does (fun s _=>zk (hs:=wG) (hle:=Nat.le_refl _) (vs:=yu p q g h)) Dp.const ?_|refine DQ.does (fun s _=>zn (hs:=wE) (hle:=Nat.zero_le _)) Dp.const ?_|refine DQ.acallV (hc:=h2) (k:=?_)|refine Da ?_|refine DQ.acall (hc:=hN) (k:=?_)|refine DQ.acall (hc:=h3) (k:=?_)|refine DQ.acallM (hc:=hW) (hR:=fun w1 hm=>wL.mod hm.mod) (k:=?_)|refine Dc ?_)
 refine DQ.anil (k:=?_);intro sx _
 repeat (first|refine Tk ?_|intro _|exact Tz)
 done
end
section
variable (ks zs:LN) (pa pz:Option Addr) (cA cZ m:Nat)
theorem mF (hne:ks≠[]) (hnd:ks.Nodup) (hk:∀ k∈ks,k<7∧k+1<q) (hn:ks.length≤7):qj q (ks.map (· + 1)) where
 ne:=by simpa using hne
 lt:=fun y hy=>by obtain⟨k,h,rfl⟩:=List.mem_map.1 hy;exact (hk k h).2
 nd:=by
  rw[List.Nodup,List.pairwise_map];exact hnd.imp (fun h e=>h Om)
 len:=by simpa using hn
theorem ef (ks:LN):(List.range ks.length).map (fun i=>ks.getD i 0+1)=ks.map (· + 1):=by
 apply List.ext_getElem
 ·simp
 ·intro i h1 h2;simp only[List.length_map,List.length_range] at h1;simp[List.getD,h1]
theorem aew (hne:ks≠[]) (hnd:ks.Nodup) (hk:∀ k∈ks,k<7∧k+1<q) (hn:ks.length≤7) (hcap:ks.length≤cA) (hz:aai p zs) (hl:zs.length=ks.length) (hm1:1≤m) (hm3:m≤3) (hmq:m<q) (hp:p<zd) (hq:q<zd) (h1:1<p) :
  Fn Tryz.prog 168 [vg p q g h,.slice pa ks.length cA,.slice pz zs.length cZ,.int .i64 (m:Int)] (fun w=>RdF iK (.slice pa ks.length cA) ks w∧RdF zc (.slice pz zs.length cZ) zs w)
   (ae3 (wtE q (ks.map (· + 1)) (ks.map (· + 1)).length) m ((rsL p q (ks.map (· + 1)) zs m).flatMap zc)):=by
 have hPt:=mF q ks hne hnd hk hn;have hnn:0<ks.length:=List.length_pos_iff.2 hne
 have hC:=fun gA gG gP=>iY (f:=209) [pt gA,pt gG,pt gP] (fun i=>ks.getD i 0+1) ks.length (fun w=>Seg w gA 0 [.slice pa ks.length cA]∧Seg w gG 0 (yu p q g h)∧Seg w gP 0 [.slice pz zs.length cZ]∧RdF iK (.slice pa ks.length cA) ks w∧RdF zc (.slice pz zs.length cZ) zs w)
  (fun w w' ⟨a,b,d,e,f⟩ hb=>⟨zM.seg w w' a hb,zM.seg w w' b hb,zM.seg w w' d hb,e.mod (.of_below hb _),f.mod (.of_below hb _)⟩) Om (fun i hi=>by
   have hik:ks[i]?=some (ks.getD i 0):=by rw[List.getElem?_eq_getElem hi];simp[List.getD,hi]
   obtain⟨z,hiz⟩ : ∃ z,zs[i]?=some z:=⟨_,List.getElem?_eq_getElem Om⟩;have hkm:=hk _ (List.mem_of_getElem? hik);have hzm:=List.mem_of_getElem? hiz;exact ab0 p q g h ks zs pa pz cA cZ i _ z gA gG gP hik hiz hnd hkm.1 hcap hn (hz.may z hzm) (hz.lt z hzm) hkm.2 hq hp)
 rw[ef] at hC;have hpl:(ks.map (· + 1)).length=ks.length:=by simp
 have hneq:((zs.length:Nat):Int)=((ks.length:Nat):Int):=by rw[hl]
 generalize hps:ks.map (· + 1)=ps at *;have hlp:zs.length=ps.length:=by omega
 by_cases he:wtE q ps ps.length=0
 ·have hD:=fun gG gE gP pe=>iY (f:=211) [pt gG,pt gE,pt gP] (rsN p q ps zs) m (fun w=>Seg w gG 0 (yu p q g h)∧Seg w gE 0 [.slice pe ps.length ks.length]∧Seg w gP 0 [.slice pz zs.length cZ]∧RdF zc (.slice pe ps.length ks.length) ps w∧RdF zc (.slice pz zs.length cZ) zs w)
   (fun w w' ⟨a,b,d,e,f⟩ hb=>⟨zM.seg w w' a hb,zM.seg w w' b hb,zM.seg w w' d hb,e.mod (.of_below hb _),f.mod (.of_below hb _)⟩) Om (fun j hj=>acq p q g h ps zs pe pz ks.length cZ j gG gE gP hPt Om hz hlp Om Om hp hq h1 he)
  rw[show (List.range m).map (rsN p q ps zs)=rsL p q ps zs m from rfl] at hD;generalize rsL p q ps zs m=rs at *;rw[hpl] at hD;refine Fn.enter Tryz.func168 rfl rfl rfl ?_;intro w hw;obtain⟨wA,wZ⟩:=hw
  repeat (first|refine WO.does (zO rfl rfl Om) ?_|refine WO.does (yb rfl rfl Om) ?_|refine WO.does (zQ rfl rfl Om) ?_|refine WO.does (zt rfl rfl hneq) ?_|refine Tj ?_|intro _|refine WO.does (zH rfl rfl) ?_|refine WO.acallX (hc:=hC _ _ _) (hR:=fun w1 hm=>⟨Hs.sg hm,Hs.sg hm,Hs.sg hm,wA.mod hm.mod,wZ.mod hm.mod⟩) (k:=fun s _=>?_)|refine Tc ?_|exact Tz)
  generalize s 0=gT
  repeat (first|refine Tj ?_|intro _|refine WO.does (zH rfl rfl) ?_|refine WO.acallX (hc:=hD _ _ _ _) (hR:=fun w1 hm=>⟨Hs.sg hm,Hs.sg hm,Hs.sg hm,RdF.own (Hs.sg hm) hpl,wZ.mod hm.mod⟩) (k:=fun s _=>?_)|refine Tc ?_|exact Tz)
  generalize s 0=gO
  repeat (first|refine Tk ?_|intro _|exact Tz)
  exact WX.ret2 rfl Rv.t Rv.t [⟨gO,24,rs.flatMap zc⟩] (Lle.c Lle.nil) (.inr ⟨he,gO,rfl,rfl⟩)
 ·have hD:=fun gG gE gP pe=>afy (f:=211) [pt gG,pt gE,pt gP] 0 m 7 (fun w=>Seg w gG 0 (yu p q g h)∧Seg w gE 0 [.slice pe ps.length ks.length]∧Seg w gP 0 [.slice pz zs.length cZ]∧RdF zc (.slice pe ps.length ks.length) ps w∧RdF zc (.slice pz zs.length cZ) zs w)
   (fun w w' ⟨a,b,d,e,f⟩ hb=>⟨zM.seg w w' a hb,zM.seg w w' b hb,zM.seg w w' d hb,e.mod (.of_below hb _),f.mod (.of_below hb _)⟩) Om Om Dt (ab p q g h ps zs pe pz ks.length cZ 0 gG gE gP hPt Om Om Om hq he)
  rw[hpl] at hD;refine Fn.enter Tryz.func168 rfl rfl rfl ?_;intro w hw;obtain⟨wA,wZ⟩:=hw
  repeat (first|refine WO.does (zO rfl rfl Om) ?_|refine WO.does (yb rfl rfl Om) ?_|refine WO.does (zQ rfl rfl Om) ?_|refine WO.does (zt rfl rfl hneq) ?_|refine Tj ?_|intro _|refine WO.does (zH rfl rfl) ?_|refine WO.acallX (hc:=hC _ _ _) (hR:=fun w1 hm=>⟨Hs.sg hm,Hs.sg hm,Hs.sg hm,wA.mod hm.mod,wZ.mod hm.mod⟩) (k:=fun s _=>?_)|refine Tc ?_|exact Tz)
  generalize s 0=gT
  repeat (first|refine Tj ?_|intro _|refine WO.does (zH rfl rfl) ?_|refine WO.acallR (hc:=hD _ _ _ _) (hR:=fun w1 hm=>⟨Hs.sg hm,Hs.sg hm,Hs.sg hm,RdF.own (Hs.sg hm) hpl,wZ.mod hm.mod⟩) (k:=?_)|refine Tc ?_|exact Tz)
  exact WX.ret2 rfl Rv.t Rv.t [] Lle.nil (.inl ⟨he,rfl,rfl⟩)
end
end
theorem RdF.ownR {α:Type} {f:α→List Value} {xs:List α} {r:LV} {w:World} {g n c:Nat} (hs:Seg w g 0 (xs.flatMap f++r)) (hn:xs.length=n):RdF f (AX g n c) xs w:=by
 subst hn;exact RdF.seg hs
end Sx
end
end Go.Proofs.YtiaibpcaloigkaaGreatDoor
