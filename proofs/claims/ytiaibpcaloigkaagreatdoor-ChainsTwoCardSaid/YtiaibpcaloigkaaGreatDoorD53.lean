/- Part 53 of the proof. -/
import Derived.Test.YtiaibpcaloigkaaGreatDoorD52
set_option linter.unusedSimpArgs false
set_option linter.unusedVariables false
set_option maxHeartbeats 8000000
namespace Go.Proofs.YtiaibpcaloigkaaGreatDoor
section
open Go Go.RowKit Go.BigFrame
namespace Sx
attribute [local irreducible] DQ WC WO WT WX vi ddH gnH hOf voH vtS wd
section
variable (p q g a F m:Nat) (ks:LP) (pt:Option Addr) (c ep:Nat) (ah:LN) (seed v n Qm:Nat) (HL:List (List Nat)) (W:List ((Dd × Dk) × Nw)) (gh ch gv cv go gl cl gs cs:Nat)
theorem fM (hcs:rU p q g a (F:Int) (m:Int) ks) (hp:p<ze) (hq:q<ze) (hg:g<ze) (hep:ep<18446744073709551616) (hal:ah.length=32) (hab:∀ b∈ah,b<256) (hv:v<1000) (h3F:3*F+1≤ks.length) (hn:ks.length - F=n) (hQm:(ks.length+F) / 2+1=Qm)
  (kW:so p q g a F m ks ep (frR seed ep) n W) (hHL:(W.map fun x=>ddH ep x.1.1)=HL) :
  Fn Tryz.prog 25 [stV p q g (exN p g a) (F:Int) (m:Int) (.slice pt ks.length c),.agg (byC ah).toArray,.agg (bkC ep ah ep (AQ gh n ch) (AQ gv Qm cv) (AQ go m m)).toArray,evV (AQ gl n cl) (.slice none 0 0) (AQ gs n cs)]
   (fun w=>RdF ym (.slice pt ks.length c) (csN p g a ks) w∧EvR ep (some ⟨gl,0,none⟩) cl (W.map Prod.fst) none 0 [] (some ⟨gs,0,none⟩) cs (W.map (swW ep)) w∧RdF byC (AQ gh n ch) HL w∧RdF vtC (AQ gv Qm cv) (vtL p q g ks ep v (hOf (zN sd) HL) Qm) w∧RdF byC (AQ go m m) (vaL p q (exN p g a) m ep HL n (fun i=>dqL q (frP seed ep i) (F+m))) w∧si w) (Is (.int .i64 0)):=by
 have hNl2:=y4 p g a ks;have hk7:=hcs.len;have hWl:=kW.len;have hTl:(W.map Prod.fst).length=n:=by rw[List.length_map,hWl]
 have hSl:(W.map (swW ep)).length=n:=by rw[List.length_map,hWl]
 have hHl:HL.length=n:=by rw[← hHL,List.length_map,hWl]
 have hE:=iN hcs hp hq kW Om;have hVt:=aee hcs hq (ep:=ep) (v:=v) (n:=Qm) (S:=hOf (zN sd) HL) hep hv (zO _ _) (vP _ _) Om
 have h:=aca p q g (exN p g a) F m pt c (csN p g a ks) ep ah (some ⟨gh,0,none⟩) ch HL (some ⟨gv,0,none⟩) cv (vtL p q g ks ep v (hOf (zN sd) HL) Qm) (some ⟨go,0,none⟩) m (vaL p q (exN p g a) m ep HL n (fun i=>dqL q (frP seed ep i) (F+m))) (some ⟨gl,0,none⟩) cl (W.map Prod.fst) none 0 (some ⟨gs,0,none⟩) cs (W.map (swW ep)) v 0 (fun i=>dqL q (frP seed ep i) (F+m)) hp hq hg (uA hp) (qI hp) Om hcs.set hep hal hab
  (by rw[hHl,hTl]) (by rw[← hHL];exact kW.hs) Om Om hE.d Om hVt (by rw[uJ];omega) (by rw[uJ];omega) Dt (by rw[uJ,hNl2];omega) (oh _ _ _ _ _ _ _ _) iW Om hE.sn hE.wy hE.wb
 rw[hTl,hSl,oh,uJ,hNl2,decide_eq_true rfl] at h;exact h
end
section
variable (p q g h0 a:Nat) (f sec:Int) (pk:Option Addr) (ck:Nat) (ks:LP) (seed one two:Nat)
theorem ace (hp:p<ze) (hq:q<ze) (hg:g<ze) (hh0:h0<ze) (ha:a<ze) (hks:zY ks)
  (hf1 : -9223372036854775808≤f) (hf2:f≤9223372036854775807) (hs1 : -9223372036854775808≤sec) (hs2:sec≤9223372036854775807) (hseed:seed<4294967296) (hone:one<4294967296) (htwo:two<4294967296) :
  Fn Tryz.prog 6 [.agg (csC p q g h0 a f sec (.slice pk ks.length ck)++([.int .u32 (seed:Int),.int .u32 (one:Int),.int .u32 (two:Int)]:LV)).toArray] (fun w=>RdF ym (.slice pk ks.length ck) ks w∧si w) (Is (.bool true)):=by
 have hC:=adN p q g h0 a f sec pk ck ks hp hq hg hh0 ha hks hf1 hf2 hs1 hs2;have hL:=dM;refine Fn.enter Tryz.func6 rfl rfl rfl ?_;intro w hw;obtain⟨w1,w4⟩:=hw
 repeat (first|refine Tk ?_|intro _|exact Tz)
 rename_i gQ gZ;refine WO.callsL (hc:=Fn.toL hC) (hp:=.nil) (hR:=fun wx hm=>w1.mod hm.mod) (k:=fun v N hv=>?_);cases hcb:nQ p q g a f sec ks with
 | false =>
  rw[hcb] at hv;obtain⟨cs,rfl,hl,h1⟩:=hv.2 rfl;refine WO.swap ?_;simp only[List.cons_append,List.nil_append]
  repeat (first|refine Tj ?_|intro _|refine WO.acall (hc:=hL) (k:=?_)|refine WO.stores (zo (vs:=cs) (cs':=cs) (hl:=hl) (h1:=h1) (hc:=zJ (by rw[hl];rfl)) (hle:=by rw[hl];rfl)) ?_|refine Tc ?_|exact Tz)
  done
 | true =>
 rw[hcb] at hv;obtain⟨gN,cN,rfl,rfl,hNl,hcN⟩:=hv.1 rfl;have hcs:=dh hcb;simp only[List.cons_append,List.nil_append];obtain⟨hn1,hn7,hsq,hf0,hsc1,hfs,_,_⟩:=zX hcs.set;obtain⟨F,rfl⟩ : ∃ F:Nat,f=(F:Int):=⟨f.toNat,by omega⟩;obtain⟨m,rfl⟩ : ∃ m:Nat,sec=(m:Int):=⟨sec.toNat,by omega⟩;have hNl2:=y4 p g a ks;have hk7:=hcs.len;have hk0:0<ks.length:=by omega
 have hk0' : ¬ ((ks.length:Nat):Int)=0:=by omega
 rw[hNl2];have h3F:3*F+1≤ks.length∧F≤2:=by
  have hs:=hcs.set;unfold yX at hs;simp only[Bool.and_eq_true,decide_eq_true_eq] at hs;omega
 obtain⟨h3F,hF2⟩:=h3F;have hNb:zY (csN p g a ks):=qI hp;have hhb:exN p g a<ze:=uA hp;have hG:=aen p q g (exN p g a) F m (some ⟨gN,0,none⟩) cN (csN p g a ks) hp hq hg hhb hNb Om hcs.set;rw[hNl2] at hG;obtain⟨ah,hah⟩ : ∃ ah,gnH p q g (exN p g a) F m (csN p g a ks)=ah:=⟨_,rfl⟩;have hal:ah.length=32:=by rw[← hah];unfold gnH;exact zO _ _
 have hab:∀ b∈ah,b<256:=by rw[← hah];unfold gnH;exact vP _ _
 rw[hah] at hG;have hMd:=fun view hv=>aN p q g h0 a F m pk ck ks (some ⟨gN,0,none⟩) cN 1 ah seed view hcs hp hq hg hh0 ha hks Dt hal hseed hv;obtain⟨n,hn⟩ : ∃ n,ks.length - F=n:=⟨_,rfl⟩;obtain⟨Qm,hQm⟩ : ∃ Qm,(ks.length+F) / 2+1=Qm:=⟨_,rfl⟩;rw[hn,hQm] at hMd;have hn7' : n≤7:=by omega
 have hM1:=Fn.weak (hMd one hone) (fun _ h=>h) (fun v L h=>ju p q g a F m ks 1 ah seed one n Qm hn7' h);have hM2:=Fn.weak (hMd two htwo) (fun _ h=>h) (fun v L h=>ju p q g a F m ks 1 ah seed two n Qm hn7' h);clear hMd
 repeat (first|refine WO.does (zS rfl rfl hk0') ?_|refine Tj ?_|intro _|refine Tc ?_|exact Tz)
 rename_i gS;refine WC.adrawF [9] 12 (k:=?_)
 iterate 3 refine Dx ?_
 refine DQ.acallR (hc:=hG) (hR:=fun wx hm=>RdF.ownO (Hs.sg hm) hNl2) (k:=?_)
 iterate 2 refine Dx ?_
 refine DQ.callsE (fs:=fun _=>[]) (cs:=fun _=>[]) (R:=fun _ w=>RdF ym (.slice pk ks.length ck) ks w∧RdF ym (AQ gN ks.length cN) (csN p g a ks) w∧si w) (vf:=fun _ x=>mkV m 1 ah n Qm x) (Nf:=fun _ x=>mkL p q g a F m ks 1 seed one n Qm x) (S:=fun _ _=>True) (fun _=>[]) (fun _=>.nil) (fun _=>⟨fun _=>0,trivial⟩) (fun _ _=>hM1) (fun _=>rfl) (fun _=>rfl) (fun _=>rfl) (fun _ _ w hm=>⟨w1.mod hm.mod,RdF.ownO (Hs.sg hm) hNl2,w4.mod hm.mod Sm⟩) Dp.const Dp.const Dp.const ?_
 iterate 2 refine Dx ?_
 repeat (first|refine Da ?_|refine Df ?_)
 refine DQ.anil (k:=?_);intro sx _;generalize sx 10 0=gB1;generalize sx 11 0=gE1;generalize sx 6=X1;simp only[mkL,List.map_cons,List.map_nil,List.map_append,List.map_map,Function.comp_def,List.map_id',List.cons_append,List.nil_append,List.append_nil,List.append_assoc];obtain⟨W1,hW1⟩ : ∃ W,mdW p q g a F m ks 1 seed n (fun j=>X1 (10+j))=W:=⟨_,rfl⟩;have kW1:=kw p q g a F m ks 1 seed n hn7' (fun j=>X1 (10+j));have hH1:=adg p q g a F m ks 1 seed n (fun j=>X1 (10+j));rw[hW1] at kW1 hH1 ⊢;clear hW1;generalize X1 0=gl1;generalize X1 1=cl1;generalize X1 2=gs1;generalize X1 3=cs1;generalize X1 4=gh1;generalize X1 5=ch1;generalize X1 6=gv1;generalize X1 7=cv1;generalize X1 8=go1;generalize X1 9=co1;have hbk1:=jw (ep:=1) (cep:=1) (sD:=AQ gh1 n ch1) (sV:=AQ gv1 Qm cv1) (sO:=AQ go1 m m) hal;obtain⟨HL,hHL⟩ : ∃ HL,mdH p q g a F m ks 1 seed n=HL:=⟨_,rfl⟩;rw[hHL] at hH1 ⊢
 repeat (first|refine WO.stores (zo (vs:=bkC 1 ah 1 (AQ gh1 n ch1) (AQ gv1 Qm cv1) (AQ go1 m m)) (cs':=bkC 1 ah 1 (AQ gh1 n ch1) (AQ gv1 Qm cv1) (AQ go1 m m)) (hl:=hbk1) (h1:=ny rfl rfl rfl) (hc:=zJ (by rw[hbk1];rfl)) (hle:=by rw[hbk1];rfl)) ?_|refine Tj ?_|intro _|refine Tc ?_|exact Tz)
 refine WC.permL ((((((((List.perm_append_comm).cons _).cons _).cons _).cons _).cons _).cons _).cons _) ?_;simp only[List.cons_append,List.nil_append,List.append_assoc];refine WC.adrawF [9] 12 (k:=?_)
 iterate 3 refine Dx ?_
 refine DQ.acallR (hc:=hG) (hR:=fun wx hm=>RdF.ownO (Hs.sg hm) hNl2) (k:=?_)
 iterate 2 refine Dx ?_
 refine DQ.callsE (fs:=fun _=>[]) (cs:=fun _=>[]) (R:=fun _ w=>RdF ym (.slice pk ks.length ck) ks w∧RdF ym (AQ gN ks.length cN) (csN p g a ks) w∧si w) (vf:=fun _ x=>mkV m 1 ah n Qm x) (Nf:=fun _ x=>mkL p q g a F m ks 1 seed two n Qm x) (S:=fun _ _=>True) (fun _=>[]) (fun _=>.nil) (fun _=>⟨fun _=>0,trivial⟩) (fun _ _=>hM2) (fun _=>rfl) (fun _=>rfl) (fun _=>rfl) (fun _ _ w hm=>⟨w1.mod hm.mod,RdF.ownO (Hs.sg hm) hNl2,w4.mod hm.mod Sm⟩) Dp.const Dp.const Dp.const ?_
 iterate 2 refine Dx ?_
 repeat (first|refine Da ?_|refine Df ?_)
 refine DQ.anil (k:=?_);intro sx _;generalize sx 10 0=gB2;generalize sx 11 0=gE2;generalize sx 6=X2;simp only[mkL,List.map_cons,List.map_nil,List.map_append,List.map_map,Function.comp_def,List.map_id',List.cons_append,List.nil_append,List.append_nil,List.append_assoc];obtain⟨W2,hW2⟩ : ∃ W,mdW p q g a F m ks 1 seed n (fun j=>X2 (10+j))=W:=⟨_,rfl⟩;have kW2:=kw p q g a F m ks 1 seed n hn7' (fun j=>X2 (10+j));have hH2:=adg p q g a F m ks 1 seed n (fun j=>X2 (10+j));rw[hW2] at kW2 hH2 ⊢;clear hW2;generalize X2 0=gl2;generalize X2 1=cl2;generalize X2 2=gs2;generalize X2 3=cs2;generalize X2 4=gh2;generalize X2 5=ch2;generalize X2 6=gv2;generalize X2 7=cv2;generalize X2 8=go2;generalize X2 9=co2;have hbk2:=jw (ep:=1) (cep:=1) (sD:=AQ gh2 n ch2) (sV:=AQ gv2 Qm cv2) (sO:=AQ go2 m m) hal;rw[hHL] at hH2 ⊢
 repeat (first|refine WO.stores (zo (vs:=bkC 1 ah 1 (AQ gh2 n ch2) (AQ gv2 Qm cv2) (AQ go2 m m)) (cs':=bkC 1 ah 1 (AQ gh2 n ch2) (AQ gv2 Qm cv2) (AQ go2 m m)) (hl:=hbk2) (h1:=ny rfl rfl rfl) (hc:=zJ (by rw[hbk2];rfl)) (hle:=by rw[hbk2];rfl)) ?_|refine Tj ?_|intro _|refine Tc ?_|exact Tz)
 refine WC.permL ((((((((List.perm_append_comm).cons _).cons _).cons _).cons _).cons _).cons _).cons _) ?_;simp only[List.cons_append,List.nil_append,List.append_assoc];have hK11:=fM p q g a F m ks (some ⟨gN,0,none⟩) cN 1 ah seed (one%1000) n Qm HL W1 gh1 ch1 gv1 cv1 go1 gl1 cl1 gs1 cs1 hcs hp hq hg Dt hal hab Om h3F hn hQm kW1 hH1;have hK22:=fM p q g a F m ks (some ⟨gN,0,none⟩) cN 1 ah seed (two%1000) n Qm HL W2 gh2 ch2 gv2 cv2 go2 gl2 cl2 gs2 cs2 hcs hp hq hg Dt hal hab Om h3F hn hQm kW2 hH2;have hK21:=fM p q g a F m ks (some ⟨gN,0,none⟩) cN 1 ah seed (one%1000) n Qm HL W2 gh1 ch1 gv1 cv1 go1 gl2 cl2 gs2 cs2 hcs hp hq hg Dt hal hab Om h3F hn hQm kW2 hH2;obtain⟨VA,hVA⟩ : ∃ VA,vaL p q (exN p g a) m 1 HL n (fun i=>dqL q (frP seed 1 i) (F+m))=VA:=⟨_,rfl⟩;have hVl:VA.length=m:=by rw[← hVA,oh]
 have hVo:∀ X∈VA,X.length=32∧∀ b∈X,b<256:=by rw[← hVA];exact iW
 rw[hVA] at hK11 hK22 hK21 ⊢;clear hVA;have hWl1:=kW1.len;have hWl2:=kW2.len;have hT1:(W1.map Prod.fst).length=n:=by rw[List.length_map,hWl1]
 have hS1:(W1.map (swW 1)).length=n:=by rw[List.length_map,hWl1]
 have hT2:(W2.map Prod.fst).length=n:=by rw[List.length_map,hWl2]
 have hS2:(W2.map (swW 1)).length=n:=by rw[List.length_map,hWl2]
 have hHlL:HL.length=n:=by rw[← hH1,List.length_map,hWl1]
 have hat1:=jQ (ep:=1) (cep:=1) (sD:=AQ gh1 n ch1) (sV:=AQ gv1 Qm cv1) (sO:=AQ go1 m m) hal 3;have hat2:=jQ (ep:=1) (cep:=1) (sD:=AQ gh2 n ch2) (sV:=AQ gv2 Qm cv2) (sO:=AQ go2 m m) hal 3;refine WC.adraw 25 (k:=?_)
 iterate 25 (first|refine DQ.acallR (hc:=hG) (hR:=fun wx hm=>RdF.ownO (Hs.sg hm) hNl2) (k:=?_)|refine DQ.acallR (hc:=hK11) (hR:=fun wx hm=>⟨RdF.ownO (Hs.sg hm) hNl2,⟨RdF.ownO (Hs.sg hm) rfl,fun y hy=>sK (fun e he=>hm.ok e (by repeat (first|exact he|exact List.mem_append_left _ he|apply List.mem_cons_of_mem))) y hy,RdF.nilV,RdF.ownO (Hs.sg hm) rfl,fun x hx=>by obtain⟨z,hz,rfl⟩:=List.mem_map.1 hx;exact su (fun e he=>hm.ok e (by repeat (first|exact he|exact List.mem_append_left _ he|apply List.mem_cons_of_mem))) z.2 (List.mem_map.2 ⟨z,hz,rfl⟩)⟩,RdF.ownO (Hs.sg hm) hHlL,RdF.ownO (Hs.sg hm) (uJ ..),RdF.ownO (Hs.sg hm) hVl,w4.mod hm.mod Sm⟩) (k:=?_)|refine DQ.acallR (hc:=hK22) (hR:=fun wx hm=>⟨RdF.ownO (Hs.sg hm) hNl2,⟨RdF.ownO (Hs.sg hm) rfl,fun y hy=>sK (fun e he=>hm.ok e (by repeat (first|exact he|exact List.mem_append_right _ he|apply List.mem_cons_of_mem))) y hy,RdF.nilV,RdF.ownO (Hs.sg hm) rfl,fun x hx=>by obtain⟨z,hz,rfl⟩:=List.mem_map.1 hx;exact su (fun e he=>hm.ok e (by repeat (first|exact he|exact List.mem_append_right _ he|apply List.mem_cons_of_mem))) z.2 (List.mem_map.2 ⟨z,hz,rfl⟩)⟩,RdF.ownO (Hs.sg hm) hHlL,RdF.ownO (Hs.sg hm) (uJ ..),RdF.ownO (Hs.sg hm) hVl,w4.mod hm.mod Sm⟩) (k:=?_)|refine DQ.does (fun s _=>zx (vs:=bkC 1 ah 1 (AQ gh1 n ch1) (AQ gv1 Qm cv1) (AQ go1 m m)) (hc:=zB hbk1) (hl:=hbk1)) Dp.const ?_|refine DQ.does (fun s _=>zx (vs:=bkC 1 ah 1 (AQ gh2 n ch2) (AQ gv2 Qm cv2) (AQ go2 m m)) (hc:=zB hbk2) (hl:=hbk2)) Dp.const ?_|refine DQ.does (fun s _=>zD (hc:=hat1)) Dp.const ?_|refine DQ.does (fun s _=>zD (hc:=hat2)) Dp.const ?_|refine DQ.does (fun s _=>zA rfl rfl rfl) Dp.const ?_|refine Da ?_|refine Dc ?_)
 refine DQ.anil (k:=?_);intro sx _
 repeat (first|refine Tk ?_|intro _|exact Tz)
 refine WC.loopI (σ:=Nat) (fun i=>i≤m) (fun i=>[(7,Ap gS),(9,Ap gB1),(11,Ap gB2),(12,Ap gE2),(13,.int .i64 (i:Int))])
  (fun _=>⟨gE2,59,[AQ gl2 n cl2,.slice none 0 0,AQ gs2 n cs2]⟩::⟨gB2,75,bkC 1 ah 1 (AQ gh2 n ch2) (AQ gv2 Qm cv2) (AQ go2 m m)⟩::⟨gl2,51,(W2.map Prod.fst).flatMap (ddC 1)++mkz (cl2 - n) dzC⟩::⟨gs2,53,(W2.map (swW 1)).flatMap swC++mkz (cs2 - n) swZ⟩::⟨gh2,70,HL.flatMap byC++mkz (ch2 - n) hzC⟩::⟨gv2,140,(vtL p q g ks 1 (two%1000) (hOf (zN sd) HL) Qm).flatMap vtC++mkz (cv2 - Qm) vtZ⟩::⟨go2,70,VA.flatMap byC++mkz (co2 - m) hzC⟩::⟨gE1,59,[AQ gl1 n cl1,.slice none 0 0,AQ gs1 n cs1]⟩::⟨gB1,75,bkC 1 ah 1 (AQ gh1 n ch1) (AQ gv1 Qm cv1) (AQ go1 m m)⟩::⟨gl1,51,(W1.map Prod.fst).flatMap (ddC 1)++mkz (cl1 - n) dzC⟩::⟨gs1,53,(W1.map (swW 1)).flatMap swC++mkz (cs1 - n) swZ⟩::⟨gh1,70,HL.flatMap byC++mkz (ch1 - n) hzC⟩::⟨gv1,140,(vtL p q g ks 1 (one%1000) (hOf (zN sd) HL) Qm).flatMap vtC++mkz (cv1 - Qm) vtZ⟩::⟨go1,70,VA.flatMap byC++mkz (co1 - m) hzC⟩::⟨gS,36,stC p q g (exN p g a) (F:Int) (m:Int) (AQ gN ks.length cN)⟩::⟨gN,105,(csN p g a ks).flatMap ym++mkz (cN - ks.length) (uL 0 0)⟩::(mdB W1++mdB W2)) (fun i=>m - i) 0 (fun i hi=>?_) (Nat.zero_le _) (hl:=(by repeat (first|exact Lle.nil|exact Lle.same|refine Lle.cons Pk.a (by rfl) ?_|refine Lle.skip ?_)))
 try dsimp only at hi ⊢
 by_cases hlt:i<m
 ·obtain⟨X,hX⟩ : ∃ X,VA[i]?=some X:=⟨_,List.getElem?_eq_getElem Om⟩;obtain⟨x1,x2⟩:=hVo X (List.mem_of_getElem? hX);have hcX:∀ r,cut (VA.flatMap byC++r) (0+i*32) 32=byC X:=fun r=>by
   rw[Nat.zero_add];exact rf (k:=32) (fun x hx=>by rw[zd,(hVo x hx).1]) hX
  have hlX:(byC X).length=32:=by rw[zd,x1]
  have hadd:IntKind.i64.wrap ((i:Int)+1)=((i+1:Nat):Int):=zl Om Om Om
  repeat (first|refine WO.does (zD (hc:=hat1)) ?_|refine Tj ?_|intro _|refine Tc ?_|exact Tz)
  refine WC.dT rfl Om ?_
  repeat (first|refine Tk ?_|intro _|exact Tz)
  refine WC.adraw 11 (k:=?_)
  iterate 11 (first|refine DQ.does (fun s _=>zD (hc:=hat1)) Dp.const ?_|refine DQ.does (fun s _=>zD (hc:=hat2)) Dp.const ?_|refine DQ.does (fun s _=>zb (o':=0+i*32) rfl rfl hlt rfl) Dp.const ?_|refine DQ.does (fun s _=>zx (vs:=byC X) (hc:=hcX _) (hl:=hlX)) Dp.const ?_|refine DQ.does (fun s _=>tE x2 x2 x1 x1 rfl rfl (show (!decide (X=X))=false by simp)) Dp.const ?_|refine Da ?_|refine Dc ?_)
  refine DQ.anil (k:=?_);intro sx _
  repeat (first|refine WO.does (zj rfl rfl hadd) ?_|refine Tj ?_|intro _|refine Tc ?_|exact Tz)
  exact WX.metI (i+1) (hl:=Lle.same) (hs:=⟨by show i+1≤m;omega,by show m - (i+1)<m - i;omega⟩)
 have hi2:m=i:=by omega
 subst hi2
 repeat (first|refine WO.does (zD (hc:=hat1)) ?_|refine Tj ?_|intro _|refine Tc ?_|exact Tz)
 refine WC.dF rfl Om ?_
 repeat (first|refine Tk ?_|intro _|exact Tz)
 refine WC.adraw 11 (k:=?_)
 iterate 11 (first|refine DQ.acallR (hc:=hG) (hR:=fun wx hm=>RdF.ownO (Hs.sg hm) hNl2) (k:=?_)|refine DQ.acallR (hc:=hK21) (hR:=fun wx hm=>⟨RdF.ownO (Hs.sg hm) hNl2,⟨RdF.ownO (Hs.sg hm) rfl,fun y hy=>sK (fun e he=>hm.ok e (by repeat (first|exact he|exact List.mem_append_right _ he|apply List.mem_cons_of_mem))) y hy,RdF.nilV,RdF.ownO (Hs.sg hm) rfl,fun x hx=>by obtain⟨z,hz,rfl⟩:=List.mem_map.1 hx;exact su (fun e he=>hm.ok e (by repeat (first|exact he|exact List.mem_append_right _ he|apply List.mem_cons_of_mem))) z.2 (List.mem_map.2 ⟨z,hz,rfl⟩)⟩,RdF.ownO (Hs.sg hm) hHlL,RdF.ownO (Hs.sg hm) (uJ ..),RdF.ownO (Hs.sg hm) hVl,w4.mod hm.mod Sm⟩) (k:=?_)|refine DQ.acall (hc:=hL) (k:=?_)|refine DQ.does (fun s _=>zx (vs:=bkC 1 ah 1 (AQ gh1 n ch1) (AQ gv1 Qm cv1) (AQ go1 m m)) (hc:=zB hbk1) (hl:=hbk1)) Dp.const ?_|refine DQ.does (fun s _=>zM rfl rfl rfl) Dp.const ?_|refine Da ?_|refine Dc ?_)
 refine DQ.anil (k:=?_);intro sx _
 repeat (first|refine Tk ?_|intro _|exact Tz)
 done
end
end Sx
end
end Go.Proofs.YtiaibpcaloigkaaGreatDoor
