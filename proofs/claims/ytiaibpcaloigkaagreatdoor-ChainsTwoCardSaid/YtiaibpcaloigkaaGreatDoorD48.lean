/- Part 48 of the proof. -/
import Derived.Test.YtiaibpcaloigkaaGreatDoorD47
set_option linter.unusedSimpArgs false
set_option linter.unusedVariables false
set_option maxHeartbeats 8000000
namespace Go.Proofs.YtiaibpcaloigkaaGreatDoor
section
open Go Go.RowKit Go.BigFrame
namespace Sx
attribute [local irreducible] DQ WC WO WX hOf wd
theorem ay (F:Nat) (hF:F≤2):Fn Tryz.prog 108 [.int .i64 (F:Int)] Tr (Is (.int .i64 ((F+1:Nat):Int))):=by
 have h1:IntKind.i64.wrap ((F:Int)+1)=((F+1:Nat):Int):=zl Om Om Om;refine Fn.enter Tryz.func108 rfl rfl rfl ?_;intro w hw
 repeat (first|refine WO.does (z7 rfl rfl Om) ?_|refine WO.does (yK rfl rfl Om) ?_|refine WO.does (zj rfl rfl h1) ?_|refine Tj ?_|intro _|refine Tc ?_|exact Tz)
 done
theorem kA (n F:Nat) (h1:1≤n) (h7:n≤7) (hF:F≤2):Fn Tryz.prog 48 [.int .i64 (n:Int),.int .i64 (F:Int)] Tr (Is (.int .i64 (((n+F) / 2+1:Nat):Int))):=by
 have hS:=ay F hF;have e1:IntKind.i64.wrap ((n:Int)+(F:Int))=((n+F:Nat):Int):=zl Om Om Om;have e2:IntKind.i64.wrap ((((n+F) / 2:Nat):Int)+1)=(((n+F) / 2+1:Nat):Int):=zl Om Om Om;have e3:IntKind.i64.wrap ((((n+F:Nat):Int)).tdiv 2)=(((n+F) / 2:Nat):Int):=by
  rw[Int.tdiv_eq_ediv_of_nonneg Om];exact zl Om Om Om
 refine Fn.enter Tryz.func48 rfl rfl rfl ?_;intro w hw
 repeat (first|refine WO.does (z7 rfl rfl Om) ?_|refine WO.does (yK rfl rfl Om) ?_|refine WO.does (zS rfl rfl Om) ?_|refine WO.does (zj rfl rfl e1) ?_|refine WO.does (zj rfl rfl e2) ?_|refine WO.does (tJ rfl rfl Om e3) ?_|refine Tj ?_|intro _|refine WO.acall (hc:=hS) (k:=?_)|refine Tc ?_|exact Tz)
 done
theorem aw (c s:Nat):prV true c s=.tuple #[.agg (uL c s).toArray,.int .i64 0]:=by
 simp only[prV,uu,okE];rfl
section
variable (p q g h:Nat) (f sec:Int) (ns:Value)
theorem abY (x:Nat) (H:LN) (hp:p<ze) (hq:q<ze) (hg:g<ze) (hx:x<ze) (h0:1<q) (hH:∀ b∈H,b<256) (hl:H.length=32) (hB:sgB p q g x (yr q x H)=true) :
  Fn Tryz.prog 109 [stV p q g h f sec ns,.agg (byC H).toArray,zi x] Tr (Is (.tuple #[.agg (uL (vtS p q g x H).1 (vtS p q g x H).2).toArray,.int .i64 0])):=by
 have hP:=yL [] x 0 none Dt;rw[List.nil_append] at hP;have hbl:(be 32 x).length=32:=zk _ _;rw[hbl] at hP;have hN:=fun g3 g5 gR=>sL q ma [AQ g3 32 32,AQ g5 32 32] [be 32 x,H] gR 0 2 hq Om (by
  intro X hX;simp only[List.mem_cons,List.not_mem_nil,or_false] at hX
  rcases hX with rfl|rfl
  ·exact vk
  ·exact hH) (by
  simp only[yz,uE,yG,List.flatMap_cons,List.flatMap_nil,List.length_append,zk,z6,List.length_nil,hl];decide) Dt
 have hdl:=(sF (x:=x) (H:=H) h0).1;have hSg:=aaC p q g h x (yr q x H) H hp hq hg hx (Nat.lt_trans hdl hq) hH hl;rw[hB] at hSg;have e:vtS p q g x H=(sgC p q g x (yr q x H) H,(yr q x H+x*sgC p q g x (yr q x H) H%q)%q):=rfl;rw[e];dsimp only;generalize sgC p q g x (yr q x H) H=cc at *;generalize (yr q x H+x*cc%q)%q=ss at *;have hlt:oM q (zN ma) [be 32 x,H] < ze:=Nat.lt_trans (Nat.mod_lt _ Om) hq;clear hB e hdl;rw[aw] at hSg;unfold yr at hSg;generalize oM q (zN ma) [be 32 x,H]=R at *;have hbH:(byC H).length=32:=by rw[zd,hl]
 refine Fn.enter Tryz.func109 rfl rfl rfl ?_;intro w hw
 repeat (first|refine Tk ?_|intro _|exact Tz)
 rename_i g3 g4 g5 g6;refine WC.adrawF [10] 12 (k:=?_)
 iterate 4 (refine DQ.auto (k:=?_))
 refine DQ.acallS (hc:=hP) (hR:=fun _=>Rd.nil) (k:=?_);refine DQ.does (v:=fun _=>AQ g4 32 32) (fun s _=>yp rfl) Dp.const ?_;refine DQ.makes (vf:=fun _ g=>AQ g 2 2) (t:=126) (cs:=fun s=>[AQ (s 4 0) 32 32,AQ g4 32 32]) (fun s _=>zh rfl Dt rfl) Dp.const (by intro s s' h;dsimp only;rw[h]<;>decide +kernel) ?_;refine DQ.callE (v:=fun _=>.tuple #[zi R,.int .i64 0]) (fun s=>[⟨s 6 0,126,[AQ (s 4 0) 32 32,AQ g4 32 32]⟩,⟨s 4 0,5,byC (be 32 x)⟩]) (fun s=>.cons 6 (.head _) Dkk (.cons 4 Mh.a Dkk .nil)) (fun s _=>hN (s 4 0) g4 (s 6 0)) (fun s=>rfl) (fun s hC w hm=>⟨Hs.seg Hs.here hm,zV.cons (by have:=RdP.own0 (g:=s 4 0) (c:=32) (X:=be 32 x) (t:=5) hm (Hs.there Hs.here) Om Dt;rw[hbl] at this;exact this) (zV.cons (by have:=RdP.own0 (g:=g4) (c:=32) (X:=H) (t:=70) hm Hs.a Om Dt;rw[hl] at this;exact this) zV.nil)⟩) Dp.const ?_
 repeat (first|refine Da ?_|refine Df ?_)
 refine DQ.anil (k:=?_);intro sx _
 repeat (first|refine WO.does (zA rfl rfl rfl) ?_|refine Tj ?_|intro _|refine WO.does yF ?_|refine Tc ?_|exact Tz)
 by_cases hR:R=0
 ·have d:decide (R=0)=true:=decide_eq_true hR;rw[if_pos hR] at hSg;rw[d]
  repeat (first|refine WO.does (zx (vs:=byC H) (hc:=zB hbH) (hl:=hbH)) ?_|refine Tj ?_|intro _|refine WO.does (zt (cs:=zc 1) rfl rfl Kr) ?_|refine WO.acall (hc:=hSg) (k:=?_)|refine Tc ?_|exact Tz)
  done
 ·have d:decide (R=0)=false:=decide_eq_false hR;rw[if_neg hR] at hSg;rw[d]
  repeat (first|refine WO.does (zx (vs:=byC H) (hc:=zB hbH) (hl:=hbH)) ?_|refine Tj ?_|intro _|refine WO.acall (hc:=hSg) (k:=?_)|refine Tc ?_|exact Tz)
  done
end
theorem aeH {x:Vt} (h:x.S.length=32) (c s:Nat):over (vtC x) 36 (uL c s)=vtC ⟨x.ep,x.v,x.n,x.S,c,s⟩:=by
 unfold vtC;rw[show (36:Nat)=4+32 from rfl,vW (by rfl),show (32:Nat)=32+0 from rfl,vW (by rw[zd,h]),zJ (cs:=uL x.c x.s) (vs:=uL c s) rfl]
section
variable (p q g h:Nat) (F m:Nat)
theorem abW (ns:Value) (f sec:Int) (x:Vt) (k:Nat) (hx:abt x) (hp:p<ze) (hq:q<ze) (hg:g<ze) (hk:k<ze) (h0:1<q) (hB:sgB p q g k (yr q k (voH x))=true) :
  Fn Tryz.prog 49 [stV p q g h f sec ns,.agg (vtC x).toArray,zi k] Tr (Is (.tuple #[.agg (vtC ⟨x.ep,x.v,x.n,x.S,(vtS p q g k (voH x)).1,(vtS p q g k (voH x)).2⟩).toArray,.int .i64 0])):=by
 have hvl:=vU hx.l;have hV:=fW x hx;have hS:=abY p q g h f sec ns k (voH x) hp hq hg hk h0 (vP _ _) (zO _ _) hB;have hHl:(voH x).length=32:=zO _ _;have hput:=aeH (x:=x) hx.l (vtS p q g k (voH x)).1 (vtS p q g k (voH x)).2;have hv2:=vU (x:=⟨x.ep,x.v,x.n,x.S,(vtS p q g k (voH x)).1,(vtS p q g k (voH x)).2⟩) hx.l;have hv3:=po ⟨x.ep,x.v,x.n,x.S,(vtS p q g k (voH x)).1,(vtS p q g k (voH x)).2⟩;generalize vtC ⟨x.ep,x.v,x.n,x.S,(vtS p q g k (voH x)).1,(vtS p q g k (voH x)).2⟩=V2 at *;generalize (vtS p q g k (voH x)).1=cc at *;generalize (vtS p q g k (voH x)).2=ss at *;generalize voH x=HS at *;refine Fn.enter Tryz.func49 rfl rfl rfl ?_;intro w hw
 repeat (first|refine Tk ?_|intro _|exact Tz)
 rename_i g3 g4 g5 g6;refine WC.adrawF [7] 9 (k:=?_);refine Dx ?_;refine DQ.does (fun s _=>zx (vs:=vtC x) (hc:=zB hvl) (hl:=hvl)) Dp.const ?_;refine DQ.acallR (hc:=hV) (hR:=fun _ _=>trivial) (k:=?_);refine Dx ?_;refine DQ.acallR (hc:=hS) (hR:=fun _ _=>trivial) (k:=?_)
 repeat (first|refine Da ?_|refine Df ?_)
 refine DQ.anil (k:=?_);intro sx _;refine WO.stores (zo (vs:=uL cc ss) (cs':=V2) (hl:=rfl) (h1:=rfl) (hc:=hput) (hle:=by rw[hvl];rfl)) ?_
 repeat (first|refine WO.does (zA rfl rfl rfl) ?_|refine WO.does (zx (vs:=V2) (hc:=zB hv2) (hl:=hv2)) ?_|refine Tj ?_|intro _|refine WO.stores (zo (vs:=V2) (cs':=V2) (hl:=hv2) (h1:=hv3) (hc:=zJ (by rw[hv2];rfl)) (hle:=by rw[hv2];rfl)) ?_|refine Tc ?_|exact Tz)
 exact WX.ret2 rfl (yh rfl Hs.a (zB hv2) hv2) Rv.t [] Lle.nil rfl
theorem aap (pt:Option Addr) (c:Nat) (N:LP) (x:Vt) (k:Nat × Nat) (hx:abt x) (hp:p<ze) (hq:q<ze) (hg:g<ze) (hh:h<ze) (hN:zY N) (hNl:N.length≤100) (hs:yX p q g h (F:Int) (m:Int) N=true) (hn:N[x.n - 1]?=some k) (hn1:1≤x.n) (hsg:rH p q g k.1 x.c x.s (voH x)=true) :
  Fn Tryz.prog 129 [stV p q g h (F:Int) (m:Int) (.slice pt N.length c),.agg (vtC x).toArray] (RdF ym (.slice pt N.length c) N) (Is (.bool true)):=by
 obtain⟨s1,s7,_,_,_,s5,s8,_⟩:=zX hs;have hS:=yn p q g h (F:Int) (m:Int) pt c N hp hq hg hh hN Om Om Om Om Om;rw[hs] at hS;have hlt:x.n - 1<N.length:=(List.getElem?_eq_some_iff.1 hn).1;have hvl:=vU hx.l;have hV:=fW x hx;have hC:=qO p q g h k.1 x.c x.s (voH x) hp hq hg (hN k (List.mem_of_getElem? hn)).1 hx.c hx.s (vP _ _) (zO _ _) s8;rw[hsg] at hC;have hcv:IntKind.i64.wrap (x.n:Int)=(x.n:Int):=i64_in (by have:=hx.n;omega) (by have:=hx.n;omega);have hsub:IntKind.u8.wrap ((x.n:Int) - 1)=((x.n - 1:Nat):Int):=u6 Om Om (by have:=hx.n;omega);have hv1:=hx.v;generalize voH x=HS at *;refine Fn.enter Tryz.func129 rfl rfl rfl ?_;intro w hw;obtain⟨bN,oN,rfl,_,hsN⟩:=id hw |>.get hn
 have hcN:=sq (o:=oN) hn
 repeat (first|refine WO.does (zS rfl rfl Dt) ?_|refine WO.does (zM rfl rfl rfl) ?_|refine Tj ?_|intro _|refine Tc ?_|exact Tz)
 refine WC.adraw 41 (k:=?_)
 iterate 41 (first|refine DQ.does (fun s _=>zx (vs:=vtC x) (hc:=zB hvl) (hl:=hvl)) Dp.const ?_|refine DQ.does (fun s _=>zx (vs:=uL x.c x.s) (hc:=aga hx.l)) Dp.const ?_|refine DQ.does (fun s _=>mi rfl rfl Om) Dp.const ?_|refine DQ.does (fun s _=>vj rfl rfl Om) Dp.const ?_|refine DQ.does (fun s _=>zy rfl hcv) Dp.const ?_|refine DQ.does (fun s _=>zE rfl rfl hsub) Dp.const ?_|refine DQ.acallR (hc:=hS) (hR:=fun wx hm=>(hw.mod hm.mod).rdK) (k:=?_)|refine DQ.does (fun s _=>zb (o':=oN+(x.n - 1)*8) rfl rfl hlt rfl) Dp.const ?_|refine DQ.does (fun s _=>zm (vs:=zc k.1) (hs:=hsN) (hle:=Nat.le_add_right _ _) (hc:=hcN)) Dp.const ?_|refine DQ.acallR (hc:=hV) (hR:=fun _ _=>trivial) (k:=?_)|refine DQ.acallR (hc:=hC) (hR:=fun _ _=>trivial) (k:=?_)|refine Da ?_|refine Dc ?_)
 refine DQ.anil (k:=?_);intro sx _
 repeat (first|refine Tk ?_|intro _|exact Tz)
 done
end
structure acS (p q g:Nat) (N:LP) (ep v a:Nat) (S:LN) (VL:List Vt):Prop where
 of:∀ (i:Nat) (x:Vt),VL[i]?=some x→x.ep=ep∧x.v=v∧x.S=S∧x.n=a+i+1
 ok:∀ x∈VL,abt x
 sg:∀ x∈VL,∃ k,N[x.n - 1]?=some k∧rH p q g k.1 x.c x.s (voH x)=true
section
variable (p q g h F m:Nat) (pt:Option Addr) (c:Nat) (N:LP) (ep v a:Nat) (S:LN) (pV:Option Addr) (cV:Nat) (VL:List Vt)
theorem adC (hp:p<ze) (hq:q<ze) (hg:g<ze) (hh:h<ze) (hN:zY N) (hNl:N.length≤100) (hs:yX p q g h (F:Int) (m:Int) N=true) (hV:acS p q g N ep v a S VL) (hVl:VL.length≤100) (ha:a≤100) (hSl:S.length=32) (hSb:∀ b∈S,b<256) :
  Fn Tryz.prog 57 [stV p q g h (F:Int) (m:Int) (.slice pt N.length c),.int .u8 2,.int .u64 (ep:Int),.int .u32 (v:Int),.agg (byC S).toArray,.slice pV VL.length cV] (fun w=>RdF ym (.slice pt N.length c) N w∧RdF vtC (.slice pV VL.length cV) VL w)
   (Is (.bool (decide ((N.length+F) / 2+1≤VL.length)))):=by
 obtain⟨s1,s7,_,_,_,s5,s8,_⟩:=zX hs;have hF2:F≤2:=by
  unfold yX at hs;simp only[Bool.and_eq_true,decide_eq_true_eq] at hs;omega
 have hSt:=yn p q g h (F:Int) (m:Int) pt c N hp hq hg hh hN Om Om Om Om Om;rw[hs] at hSt;have hQ:=kA N.length F s1 Om hF2;obtain⟨b,hb⟩ : ∃ b,decide ((N.length+F) / 2+1≤VL.length)=b:=⟨_,rfl⟩;have hb' : decide ((((N.length+F) / 2+1:Nat):Int)≤(VL.length:Int))=b:=by rw[← hb];exact decide_eq_decide.2 Om
 have hbl:(byC S).length=32:=by rw[zd,hSl]
 rw[hb];refine Fn.enter Tryz.func57 rfl rfl rfl ?_;intro w hw;obtain⟨w1,w2⟩:=hw
 repeat (first|refine Tk ?_|intro _|exact Tz)
 rename_i gS gH
 refine WC.loopI (σ:=Nat × Nat) (fun s=>s.1≤VL.length∧s.2<a+s.1+1) (fun s=>[(6,Sx.pt gS),(10,Sx.pt gH),(1,.int .u8 2),(2,.int .u64 (ep:Int)),(3,.int .u32 (v:Int)),(5,.slice pV VL.length cV),(12,.bool false),(13,.int .u8 (s.2:Int)),(16,.slice pV VL.length cV),(17,.int .i64 (VL.length:Int)),(18,.int .i64 (s.1:Int))])
  (fun _=>[⟨gH,70,byC S⟩,⟨gS,36,stC p q g h (F:Int) (m:Int) (.slice pt N.length c)⟩]) (fun s=>VL.length - s.1) (0,0) (fun s hi=>?_) ⟨Nat.zero_le _,by show 0<a+0+1;omega⟩
 obtain⟨i,l⟩:=s;obtain⟨hi,hl⟩:=hi
 try dsimp only at hi hl ⊢
 by_cases hlt:i<VL.length
 ·obtain⟨x,hx⟩ : ∃ x,VL[i]?=some x:=⟨_,List.getElem?_eq_getElem hlt⟩;have hxm:=List.mem_of_getElem? hx;obtain⟨e1,e2,e3,e4⟩:=hV.of i x hx;have hxo:=hV.ok x hxm;obtain⟨k,hk,hsg⟩:=hV.sg x hxm;have hvl:=vU hxo.l;have hC:=aap p q g h F m pt c N x k hxo hp hq hg hh hN hNl hs hk Om hsg;obtain⟨bV,oV,rfl,_,hsV⟩:=id w2 |>.get hx
  have hcV:cut (VL.flatMap vtC) (oV+i*44 - oV) 44=vtC x:=by
   rw[Nat.add_sub_cancel_left];exact ua (k:=44) (fun y hy=>vU (hV.ok y hy).l) hx
  have hadd:IntKind.i64.wrap ((i:Int)+1)=((i+1:Nat):Int):=zl Om Om Om;have hxn:=hxo.n;have hSb':=hxo.S;subst e1 e2 e3
  repeat (first|refine Tk ?_|intro _|exact Tz)
  refine WC.dT rfl Om ?_
  repeat (first|refine WO.does (zb (o':=oV+i*44) rfl rfl hlt rfl) ?_|refine WO.does (zm (vs:=vtC x) (hs:=hsV) (hle:=Nat.le_add_right _ _) (hc:=hcV) (hl:=hvl)) ?_|refine WO.stores (zo (vs:=vtC x) (cs':=vtC x) (hl:=hvl) (h1:=po x) (hc:=zJ (by rw[hvl];rfl)) (hle:=by rw[hvl];rfl)) ?_|refine WO.does (zx (vs:=vtC x) (hc:=zB hvl) (hl:=hvl)) ?_|refine WO.does (zx (vs:=byC x.S) (hc:=af1 hxo.l) (hl:=hbl)) ?_|refine WO.does (zx (vs:=byC x.S) (hc:=zB hbl) (hl:=hbl)) ?_|refine WO.does (tE hSb' hSb' hxo.l hxo.l rfl rfl (show (!decide (x.S=x.S))=false by simp)) ?_|refine WO.does (zA rfl rfl rfl) ?_|refine WO.does (rG rfl rfl Om) ?_|refine WO.acallR (hc:=hC) (hR:=fun wx hm=>w1.mod hm.mod) (k:=?_)|refine WO.does (zj rfl rfl hadd) ?_|refine Tj ?_|intro _|refine Tc ?_|exact Tz)
  exact WX.metI (i+1,x.n) (hs:=⟨⟨by show i+1≤VL.length;omega,by show x.n<a+(i+1)+1;omega⟩,by show VL.length - (i+1)<VL.length - i;omega⟩)
 have hi2:i=VL.length:=by omega
 subst hi2
 repeat (first|refine Tk ?_|intro _|exact Tz)
 refine WC.dF rfl Om ?_
 repeat (first|refine WO.acallR (hc:=hSt) (hR:=fun wx hm=>(w1.mod hm.mod).rdK) (k:=?_)|refine WO.acallR (hc:=hQ) (hR:=fun _ _=>trivial) (k:=?_)|refine WO.does (eG rfl rfl hb') ?_|refine Tj ?_|intro _|refine Tc ?_|exact Tz)
 done
end
end Sx
end
end Go.Proofs.YtiaibpcaloigkaaGreatDoor
