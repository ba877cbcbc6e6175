/- Part 44 of the proof. -/
import Derived.Test.YtiaibpcaloigkaaGreatDoorG42
set_option linter.unusedSimpArgs false
set_option linter.unusedVariables false
set_option maxHeartbeats 8000000
namespace Go.Proofs.YtiaibpcaloigkaaGreatDoor
section
open Go Go.RowKit Go.BigFrame
namespace Sx
attribute [local irreducible] DQ WC WO WX hOf wd
theorem aaQ (F:Nat) (hF:F≤2):Fn Tryz.prog 108 [.int .i64 (F:Int)] Tr (Is (.int .i64 ((F+1:Nat):Int))):=by
 have h1:IntKind.i64.wrap ((F:Int)+1)=((F+1:Nat):Int):=zl Om Om Om;refine Fn.enter Tryz.func108 rfl rfl rfl ?_;intro w hw
 repeat (first|refine WO.does (z7 rfl rfl Om) ?_|refine WO.does (yn rfl rfl Om) ?_|refine WO.does (zi rfl rfl h1) ?_|refine Tj ?_|intro _|refine Tc ?_|exact Tz)
 done
theorem jx (n F:Nat) (h1:1≤n) (h7:n≤7) (hF:F≤2):Fn Tryz.prog 48 [.int .i64 (n:Int),.int .i64 (F:Int)] Tr (Is (.int .i64 (((n+F) / 2+1:Nat):Int))):=by
 have hS:=aaQ F hF;have e1:IntKind.i64.wrap ((n:Int)+(F:Int))=((n+F:Nat):Int):=zl Om Om Om;have e2:IntKind.i64.wrap ((((n+F) / 2:Nat):Int)+1)=(((n+F) / 2+1:Nat):Int):=zl Om Om Om;have e3:IntKind.i64.wrap ((((n+F:Nat):Int)).tdiv 2)=(((n+F) / 2:Nat):Int):=by
  rw[Int.tdiv_eq_ediv_of_nonneg Om];exact zl Om Om Om
 refine Fn.enter Tryz.func48 rfl rfl rfl ?_;intro w hw
 repeat (first|refine WO.does (z7 rfl rfl Om) ?_|refine WO.does (yn rfl rfl Om) ?_|refine WO.does (zR rfl rfl Om) ?_|refine WO.does (zi rfl rfl e1) ?_|refine WO.does (zi rfl rfl e2) ?_|refine WO.does (ud rfl rfl Om e3) ?_|refine Tj ?_|intro _|refine WO.acall (hc:=hS) (k:=?_)|refine Tc ?_|exact Tz)
 done
theorem abp (c s:Nat):prV true c s=.tuple #[.agg (vC c s).toArray,.int .i64 0]:=by
 simp only[prV,uE,okE];rfl
section
variable (p q g h:Nat) (f sec:Int) (ns:Value)
theorem aea (x:Nat) (H:LN) (hp:p<ze) (hq:q<ze) (hg:g<ze) (hx:x<ze) (h0:1<q) (hH:∀ b∈H,b<256) (hl:H.length=32) (hB:sgB p q g x (yw q x H)=true) :
  Fn Tryz.prog 109 [stV p q g h f sec ns,.agg (byC H).toArray,zk x] Tr (Is (.tuple #[.agg (vC (vtS p q g x H).1 (vtS p q g x H).2).toArray,.int .i64 0])):=by
 have hP:=yQ [] x 0 none Dtt;rw[List.nil_append] at hP;have hbl:(be 32 x).length=32:=zj _ _;rw[hbl] at hP;have hN:=fun g3 g5 gR=>sU q mu [AQ g3 32 32,AQ g5 32 32] [be 32 x,H] gR 0 2 hq Om (by
  intro X hX;simp only[List.mem_cons,List.not_mem_nil,or_false] at hX
  rcases hX with rfl|rfl
  ·exact yZ
  ·exact hH) (by
  simp only[yG,uV,yM,List.flatMap_cons,List.flatMap_nil,List.length_append,zj,yb,List.length_nil,hl];decide) Dtt
 have hdl:=(sZ (x:=x) (H:=H) h0).1;have hSg:=acx p q g h x (yw q x H) H hp hq hg hx (Nat.lt_trans hdl hq) hH hl;rw[hB] at hSg;have e:vtS p q g x H=(sgC p q g x (yw q x H) H,(yw q x H+x*sgC p q g x (yw q x H) H%q)%q):=rfl;rw[e];dsimp only;generalize sgC p q g x (yw q x H) H=cc at *;generalize (yw q x H+x*cc%q)%q=ss at *;have hlt:nB q (zN mu) [be 32 x,H] < ze:=Nat.lt_trans (Nat.mod_lt _ Om) hq;clear hB e hdl;rw[abp] at hSg;unfold yw at hSg;generalize nB q (zN mu) [be 32 x,H]=R at *;have hbH:(byC H).length=32:=by rw[zd,hl]
 refine Fn.enter Tryz.func109 rfl rfl rfl ?_;intro w hw
 repeat (first|refine Tk ?_|intro _|exact Tz)
 rename_i g3 g4 g5 g6;refine WC.adrawF [10] 12 (k:=?_)
 iterate 4 (refine DQ.auto (k:=?_))
 refine DQ.acallS (hc:=hP) (hR:=fun _=>Rd.nil) (k:=?_);refine DQ.does (v:=fun _=>AQ g4 32 32) (fun s _=>yu rfl) Dp.const ?_;refine DQ.makes (vf:=fun _ g=>AQ g 2 2) (t:=126) (cs:=fun s=>[AQ (s 4 0) 32 32,AQ g4 32 32]) (fun s _=>zh rfl Dtt rfl) Dp.const (by intro s s' h;dsimp only;rw[h]<;>decide +kernel) ?_;refine DQ.callE (v:=fun _=>.tuple #[zk R,.int .i64 0]) (fun s=>[⟨s 6 0,126,[AQ (s 4 0) 32 32,AQ g4 32 32]⟩,⟨s 4 0,5,byC (be 32 x)⟩]) (fun s=>.cons 6 (.head _) Dkk (.cons 4 Mh.a Dkk .nil)) (fun s _=>hN (s 4 0) g4 (s 6 0)) (fun s=>rfl) (fun s hC w hm=>⟨Hs.seg Hs.here hm,z6.cons (by have:=RdP.own0 (g:=s 4 0) (c:=32) (X:=be 32 x) (t:=5) hm (Hs.there Hs.here) Om Dtt;rw[hbl] at this;exact this) (z6.cons (by have:=RdP.own0 (g:=g4) (c:=32) (X:=H) (t:=70) hm Hs.a Om Dtt;rw[hl] at this;exact this) z6.nil)⟩) Dp.const ?_
 repeat (first|refine Da ?_|refine Df ?_)
 refine DQ.anil (k:=?_);intro sx _
 repeat (first|refine WO.does (zA rfl rfl rfl) ?_|refine Tj ?_|intro _|refine WO.does yO ?_|refine Tc ?_|exact Tz)
 by_cases hR:R=0
 ·have d:decide (R=0)=true:=decide_eq_true hR;rw[if_pos hR] at hSg;rw[d]
  repeat (first|refine WO.does (zw (vs:=byC H) (hc:=zt hbH) (hl:=hbH)) ?_|refine Tj ?_|intro _|refine WO.does (zz (cs:=zc 1) rfl rfl Kr) ?_|refine WO.acall (hc:=hSg) (k:=?_)|refine Tc ?_|exact Tz)
  done
 ·have d:decide (R=0)=false:=decide_eq_false hR;rw[if_neg hR] at hSg;rw[d]
  repeat (first|refine WO.does (zw (vs:=byC H) (hc:=zt hbH) (hl:=hbH)) ?_|refine Tj ?_|intro _|refine WO.acall (hc:=hSg) (k:=?_)|refine Tc ?_|exact Tz)
  done
end
theorem agB {x:Vt} (h:x.S.length=32) (c s:Nat):over (vtC x) 36 (vC c s)=vtC ⟨x.ep,x.v,x.n,x.S,c,s⟩:=by
 unfold vtC;rw[show (36:Nat)=4+32 from rfl,vc (by rfl),show (32:Nat)=32+0 from rfl,vc (by rw[zd,h]),zC (cs:=vC x.c x.s) (vs:=vC c s) rfl]
section
variable (p q g h:Nat) (F m:Nat)
theorem aeA (ns:Value) (f sec:Int) (x:Vt) (k:Nat) (hx:aeJ x) (hp:p<ze) (hq:q<ze) (hg:g<ze) (hk:k<ze) (h0:1<q) (hB:sgB p q g k (yw q k (voH x))=true) :
  Fn Tryz.prog 49 [stV p q g h f sec ns,.agg (vtC x).toArray,zk k] Tr (Is (.tuple #[.agg (vtC ⟨x.ep,x.v,x.n,x.S,(vtS p q g k (voH x)).1,(vtS p q g k (voH x)).2⟩).toArray,.int .i64 0])):=by
 have hvl:=vO hx.l;have hV:=bg x hx;have hS:=aea p q g h f sec ns k (voH x) hp hq hg hk h0 (yX _ _) (zI _ _) hB;have hHl:(voH x).length=32:=zI _ _;have hput:=agB (x:=x) hx.l (vtS p q g k (voH x)).1 (vtS p q g k (voH x)).2;have hv2:=vO (x:=⟨x.ep,x.v,x.n,x.S,(vtS p q g k (voH x)).1,(vtS p q g k (voH x)).2⟩) hx.l;have hv3:=qf ⟨x.ep,x.v,x.n,x.S,(vtS p q g k (voH x)).1,(vtS p q g k (voH x)).2⟩;generalize vtC ⟨x.ep,x.v,x.n,x.S,(vtS p q g k (voH x)).1,(vtS p q g k (voH x)).2⟩=V2 at *;generalize (vtS p q g k (voH x)).1=cc at *;generalize (vtS p q g k (voH x)).2=ss at *;generalize voH x=HS at *;refine Fn.enter Tryz.func49 rfl rfl rfl ?_;intro w hw
 repeat (first|refine Tk ?_|intro _|exact Tz)
 rename_i g3 g4 g5 g6;refine WC.adrawF [7] 9 (k:=?_);refine Dx ?_;refine DQ.does (fun s _=>zw (vs:=vtC x) (hc:=zt hvl) (hl:=hvl)) Dp.const ?_;refine DQ.acallR (hc:=hV) (hR:=fun _ _=>trivial) (k:=?_);refine Dx ?_;refine DQ.acallR (hc:=hS) (hR:=fun _ _=>trivial) (k:=?_)
 repeat (first|refine Da ?_|refine Df ?_)
 refine DQ.anil (k:=?_);intro sx _;refine WO.stores (zo (vs:=vC cc ss) (cs':=V2) (hl:=rfl) (h1:=rfl) (hc:=hput) (hle:=by rw[hvl];rfl)) ?_
 repeat (first|refine WO.does (zA rfl rfl rfl) ?_|refine WO.does (zw (vs:=V2) (hc:=zt hv2) (hl:=hv2)) ?_|refine Tj ?_|intro _|refine WO.stores (zo (vs:=V2) (cs':=V2) (hl:=hv2) (h1:=hv3) (hc:=zC (by rw[hv2];rfl)) (hle:=by rw[hv2];rfl)) ?_|refine Tc ?_|exact Tz)
 exact WX.ret2 rfl (zW rfl Hs.a (zt hv2) hv2) Rv.t [] Lle.nil rfl
theorem abN (pt:Option Addr) (c:Nat) (N:LP) (x:Vt) (k:Nat × Nat) (hx:aeJ x) (hp:p<ze) (hq:q<ze) (hg:g<ze) (hh:h<ze) (hN:zZ N) (hNl:N.length≤100) (hs:y5 p q g h (F:Int) (m:Int) N=true) (hn:N[x.n - 1]?=some k) (hn1:1≤x.n) (hsg:rX p q g k.1 x.c x.s (voH x)=true) :
  Fn Tryz.prog 129 [stV p q g h (F:Int) (m:Int) (.slice pt N.length c),.agg (vtC x).toArray] (RdF ya (.slice pt N.length c) N) (Is (.bool true)):=by
 obtain⟨s1,s7,_,_,_,s5,s8,_⟩:=zS hs;have hS:=yh p q g h (F:Int) (m:Int) pt c N hp hq hg hh hN Om Om Om Om Om;rw[hs] at hS;have hlt:x.n - 1<N.length:=(List.getElem?_eq_some_iff.1 hn).1;have hvl:=vO hx.l;have hV:=bg x hx;have hC:=qO p q g h k.1 x.c x.s (voH x) hp hq hg (hN k (List.mem_of_getElem? hn)).1 hx.c hx.s (yX _ _) (zI _ _) s8;rw[hsg] at hC;have hcv:IntKind.i64.wrap (x.n:Int)=(x.n:Int):=i64_in (by have:=hx.n;omega) (by have:=hx.n;omega);have hsub:IntKind.u8.wrap ((x.n:Int) - 1)=((x.n - 1:Nat):Int):=tt Om Om (by have:=hx.n;omega);have hv1:=hx.v;generalize voH x=HS at *;refine Fn.enter Tryz.func129 rfl rfl rfl ?_;intro w hw;obtain⟨bN,oN,rfl,_,hsN⟩:=id hw |>.get hn
 have hcN:=sY (o:=oN) hn
 repeat (first|refine WO.does (zR rfl rfl Dtt) ?_|refine WO.does (zO rfl rfl rfl) ?_|refine Tj ?_|intro _|refine Tc ?_|exact Tz)
 refine WC.adraw 41 (k:=?_)
 iterate 41 (first|refine DQ.does (fun s _=>zw (vs:=vtC x) (hc:=zt hvl) (hl:=hvl)) Dp.const ?_|refine DQ.does (fun s _=>zw (vs:=vC x.c x.s) (hc:=ah1 hx.l)) Dp.const ?_|refine DQ.does (fun s _=>nE rfl rfl Om) Dp.const ?_|refine DQ.does (fun s _=>yP rfl rfl Om) Dp.const ?_|refine DQ.does (fun s _=>zr rfl hcv) Dp.const ?_|refine DQ.does (fun s _=>zG rfl rfl hsub) Dp.const ?_|refine DQ.acallR (hc:=hS) (hR:=fun wx hm=>(hw.mod hm.mod).rdK) (k:=?_)|refine DQ.does (fun s _=>zb (o':=oN+(x.n - 1)*8) rfl rfl hlt rfl) Dp.const ?_|refine DQ.does (fun s _=>zn (vs:=zc k.1) (hs:=hsN) (hle:=Nat.le_add_right _ _) (hc:=hcN)) Dp.const ?_|refine DQ.acallR (hc:=hV) (hR:=fun _ _=>trivial) (k:=?_)|refine DQ.acallR (hc:=hC) (hR:=fun _ _=>trivial) (k:=?_)|refine Da ?_|refine Dc ?_)
 refine DQ.anil (k:=?_);intro sx _
 repeat (first|refine Tk ?_|intro _|exact Tz)
 done
end
structure ad4 (p q g:Nat) (N:LP) (ep v a:Nat) (S:LN) (VL:List Vt):Prop where
 of:∀ (i:Nat) (x:Vt),VL[i]?=some x→x.ep=ep∧x.v=v∧x.S=S∧x.n=a+i+1
 ok:∀ x∈VL,aeJ x
 sg:∀ x∈VL,∃ k,N[x.n - 1]?=some k∧rX p q g k.1 x.c x.s (voH x)=true
section
variable (p q g h F m:Nat) (pt:Option Addr) (c:Nat) (N:LP) (ep v a:Nat) (S:LN) (pV:Option Addr) (cV:Nat) (VL:List Vt)
theorem af5 (hp:p<ze) (hq:q<ze) (hg:g<ze) (hh:h<ze) (hN:zZ N) (hNl:N.length≤100) (hs:y5 p q g h (F:Int) (m:Int) N=true) (hV:ad4 p q g N ep v a S VL) (hVl:VL.length≤100) (ha:a≤100) (hSl:S.length=32) (hSb:∀ b∈S,b<256) :
  Fn Tryz.prog 57 [stV p q g h (F:Int) (m:Int) (.slice pt N.length c),.int .u8 2,.int .u64 (ep:Int),.int .u32 (v:Int),.agg (byC S).toArray,.slice pV VL.length cV] (fun w=>RdF ya (.slice pt N.length c) N w∧RdF vtC (.slice pV VL.length cV) VL w)
   (Is (.bool (decide ((N.length+F) / 2+1≤VL.length)))):=by
 obtain⟨s1,s7,_,_,_,s5,s8,_⟩:=zS hs;have hF2:F≤2:=by
  unfold y5 at hs;simp only[Bool.and_eq_true,decide_eq_true_eq] at hs;omega
 have hSt:=yh p q g h (F:Int) (m:Int) pt c N hp hq hg hh hN Om Om Om Om Om;rw[hs] at hSt;have hQ:=jx N.length F s1 Om hF2;obtain⟨b,hb⟩ : ∃ b,decide ((N.length+F) / 2+1≤VL.length)=b:=⟨_,rfl⟩;have hb' : decide ((((N.length+F) / 2+1:Nat):Int)≤(VL.length:Int))=b:=by rw[← hb];exact decide_eq_decide.2 Om
 have hbl:(byC S).length=32:=by rw[zd,hSl]
 rw[hb];refine Fn.enter Tryz.func57 rfl rfl rfl ?_;intro w hw;obtain⟨w1,w2⟩:=hw
 repeat (first|refine Tk ?_|intro _|exact Tz)
 rename_i gS gH
 refine WC.loopI (σ:=Nat × Nat) (fun s=>s.1≤VL.length∧s.2<a+s.1+1) (fun s=>[(6,Sx.pt gS),(10,Sx.pt gH),(1,.int .u8 2),(2,.int .u64 (ep:Int)),(3,.int .u32 (v:Int)),(5,.slice pV VL.length cV),(12,.bool false),(13,.int .u8 (s.2:Int)),(16,.slice pV VL.length cV),(17,.int .i64 (VL.length:Int)),(18,.int .i64 (s.1:Int))])
  (fun _=>[⟨gH,70,byC S⟩,⟨gS,36,stC p q g h (F:Int) (m:Int) (.slice pt N.length c)⟩]) (fun s=>VL.length - s.1) (0,0) (fun s hi=>?_) ⟨Nat.zero_le _,by show 0<a+0+1;omega⟩
 obtain⟨i,l⟩:=s;obtain⟨hi,hl⟩:=hi
 try dsimp only at hi hl ⊢
 by_cases hlt:i<VL.length
 ·obtain⟨x,hx⟩ : ∃ x,VL[i]?=some x:=⟨_,List.getElem?_eq_getElem hlt⟩;have hxm:=List.mem_of_getElem? hx;obtain⟨e1,e2,e3,e4⟩:=hV.of i x hx;have hxo:=hV.ok x hxm;obtain⟨k,hk,hsg⟩:=hV.sg x hxm;have hvl:=vO hxo.l;have hC:=abN p q g h F m pt c N x k hxo hp hq hg hh hN hNl hs hk Om hsg;obtain⟨bV,oV,rfl,_,hsV⟩:=id w2 |>.get hx
  have hcV:cut (VL.flatMap vtC) (oV+i*44 - oV) 44=vtC x:=by
   rw[Nat.add_sub_cancel_left];exact ve (k:=44) (fun y hy=>vO (hV.ok y hy).l) hx
  have hadd:IntKind.i64.wrap ((i:Int)+1)=((i+1:Nat):Int):=zl Om Om Om;have hxn:=hxo.n;have hSb':=hxo.S;subst e1 e2 e3
  repeat (first|refine Tk ?_|intro _|exact Tz)
  refine WC.dT rfl Om ?_
  repeat (first|refine WO.does (zb (o':=oV+i*44) rfl rfl hlt rfl) ?_|refine WO.does (zn (vs:=vtC x) (hs:=hsV) (hle:=Nat.le_add_right _ _) (hc:=hcV) (hl:=hvl)) ?_|refine WO.stores (zo (vs:=vtC x) (cs':=vtC x) (hl:=hvl) (h1:=qf x) (hc:=zC (by rw[hvl];rfl)) (hle:=by rw[hvl];rfl)) ?_|refine WO.does (zw (vs:=vtC x) (hc:=zt hvl) (hl:=hvl)) ?_|refine WO.does (zw (vs:=byC x.S) (hc:=ahO hxo.l) (hl:=hbl)) ?_|refine WO.does (zw (vs:=byC x.S) (hc:=zt hbl) (hl:=hbl)) ?_|refine WO.does (ux hSb' hSb' hxo.l hxo.l rfl rfl (show (!decide (x.S=x.S))=false by simp)) ?_|refine WO.does (zA rfl rfl rfl) ?_|refine WO.does (rW rfl rfl Om) ?_|refine WO.acallR (hc:=hC) (hR:=fun wx hm=>w1.mod hm.mod) (k:=?_)|refine WO.does (zi rfl rfl hadd) ?_|refine Tj ?_|intro _|refine Tc ?_|exact Tz)
  exact WX.metI (i+1,x.n) (hs:=⟨⟨by show i+1≤VL.length;omega,by show x.n<a+(i+1)+1;omega⟩,by show VL.length - (i+1)<VL.length - i;omega⟩)
 have hi2:i=VL.length:=by omega
 subst hi2
 repeat (first|refine Tk ?_|intro _|exact Tz)
 refine WC.dF rfl Om ?_
 repeat (first|refine WO.acallR (hc:=hSt) (hR:=fun wx hm=>(w1.mod hm.mod).rdK) (k:=?_)|refine WO.acallR (hc:=hQ) (hR:=fun _ _=>trivial) (k:=?_)|refine WO.does (dR rfl rfl hb') ?_|refine Tj ?_|intro _|refine Tc ?_|exact Tz)
 done
end
end Sx
end
section
open Go Go.RowKit Go.BigFrame
namespace Sx
attribute [local irreducible] DQ WC WO WT WX yN ddH hOf wd
def neE (b:Bool) (e:Int):Int:=if b then 0 else e
theorem iq (gf:Nat) (b:Bool) (e:Int) (he:e≠0):FnL Tryz.prog 55 [.bool b,.int .i64 e,Sx.pt gf] [⟨gf,54,[.int .i64 0]⟩] Tr (fun v N=>v=.bool b∧N=[⟨gf,54,[.int .i64 (neE b e)]⟩]):=by
 refine FnL.enter Tryz.func55 rfl rfl rfl ?_;intro w _;cases b with
 | true =>
  repeat (first|refine WO.does (zO rfl rfl rfl) ?_|refine Tj ?_|intro _|refine Tc ?_|exact Tz)
  exact WX.retP_of (N:=[⟨gf,54,[.int .i64 0]⟩]) (abT rfl (zK rfl)) Lle.left' ⟨rfl,rfl⟩
 | false =>
  repeat (first|refine WO.does (zO rfl rfl rfl) ?_|refine WO.does (zR rfl rfl he) ?_|refine Tj ?_|intro _|refine Tc ?_|exact Tz)
  exact WX.retP_of (N:=[⟨gf,54,[.int .i64 e]⟩]) (abT rfl (zK rfl)) Lle.left' ⟨rfl,rfl⟩
section
variable (ep:Nat) (pD:Option Addr) (cD:Nat) (T:List (Dd × Dk))
theorem afy (hd:∀ (i:Nat) (y:Dd × Dk),T[i]?=some y→y.1.d=i+1) (hl:T.length≤100):Fn Tryz.prog 56 [.slice pD T.length cD,.int .u64 (ep:Int)] (RdF (ddC ep) (.slice pD T.length cD) T) (Is (.bool true)):=by
 refine Fn.enter Tryz.func56 rfl rfl rfl ?_;intro w hw
 repeat (first|refine Tk ?_|intro _|exact Tz)
 refine WC.loopI (σ:=Nat) (fun i=>i≤T.length) (fun i=>[(1,.int .u64 (ep:Int)),(4,.bool false),(5,.int .u8 (i:Int)),(8,.slice pD T.length cD),(9,.int .i64 (T.length:Int)),(10,.int .i64 (i:Int))])
  (fun _=>[]) (fun i=>T.length - i) 0 (fun i hi=>?_) (Nat.zero_le _)
 try dsimp only at hi ⊢
 by_cases hlt:i<T.length
 ·obtain⟨y,hy⟩ : ∃ y,T[i]?=some y:=⟨_,List.getElem?_eq_getElem hlt⟩;obtain⟨bD,oD,rfl,_,hsD⟩:=id hw |>.get hy
  have hyd:=hd i y hy;have hadd:IntKind.i64.wrap ((i:Int)+1)=((i+1:Nat):Int):=zl Om Om Om
  repeat (first|refine Tk ?_|intro _|exact Tz)
  refine WC.dT rfl Om ?_
  repeat (first|refine WO.does (zb (o':=oD+i*13) rfl rfl hlt rfl) ?_|refine WO.does (zn (vs:=ddC ep y) (hs:=hsD) (hle:=Nat.le_add_right _ _) (hc:=oR hy)) ?_|refine WO.does (rW rfl rfl Om) ?_|refine WO.does (zA rfl rfl rfl) ?_|refine WO.does (zi rfl rfl hadd) ?_|refine Tj ?_|intro _|refine Tc ?_|exact Tz)
  rw[hyd];exact WX.metI (i+1) (hs:=⟨by show i+1≤T.length;omega,by show T.length - (i+1)<T.length - i;omega⟩)
 have hi2:i=T.length:=by omega
 subst hi2
 repeat (first|refine Tk ?_|intro _|exact Tz)
 refine WC.dF rfl Om ?_
 repeat (first|refine Tk ?_|intro _|exact Tz)
 done
end
section
variable (p1 p2:Option Addr) (c1 c2:Nat) (A B:List (List Nat))
theorem aa7 (hA:∀ X∈A,X.length=32∧∀ b∈X,b<256) (hB:∀ X∈B,X.length=32∧∀ b∈X,b<256) (hl:A.length=B.length) (hn:A.length≤100) :
  Fn Tryz.prog 59 [.slice p1 A.length c1,.slice p2 A.length c2] (fun w=>RdF byC (.slice p1 A.length c1) A w∧RdF byC (.slice p2 A.length c2) B w) (Is (.bool (decide (A=B)))):=by
 refine Fn.enter Tryz.func59 rfl rfl rfl ?_;intro w hw;obtain⟨w1,w2⟩:=hw
 repeat (first|refine WO.does (zA rfl rfl rfl) ?_|refine Tj ?_|intro _|refine Tc ?_|exact Tz)
 refine WC.loopI (σ:=Nat) (fun i=>i≤A.length∧A.take i=B.take i) (fun i=>[(0,.slice p1 A.length c1),(1,.slice p2 A.length c2),(4,.bool false),(12,.int .i64 (A.length:Int)),(13,.int .i64 (i:Int))])
  (fun _=>[]) (fun i=>A.length - i) 0 (fun i hi=>?_) ⟨Nat.zero_le _,rfl⟩
 obtain⟨hi,hT⟩:=hi
 try dsimp only at hi hT ⊢
 by_cases hlt:i<A.length
 ·obtain⟨X,hX⟩ : ∃ X,A[i]?=some X:=⟨_,List.getElem?_eq_getElem hlt⟩;obtain⟨Y,hY⟩ : ∃ Y,B[i]?=some Y:=⟨_,List.getElem?_eq_getElem Om⟩;obtain⟨b1,o1,rfl,_,s1⟩:=id w1 |>.get hX
  obtain⟨b2,o2,rfl,_,s2⟩:=id w2 |>.get hY
  obtain⟨x1,x2⟩:=hA X (List.mem_of_getElem? hX);obtain⟨y1,y2⟩:=hB Y (List.mem_of_getElem? hY);have hc1:cut (A.flatMap byC) (o1+i*32 - o1) 32=byC X:=by
   rw[Nat.add_sub_cancel_left];exact ve (k:=32) (fun x hx=>by rw[zd,(hA x hx).1]) hX
  have hc2:cut (B.flatMap byC) (o2+i*32 - o2) 32=byC Y:=by
   rw[Nat.add_sub_cancel_left];exact ve (k:=32) (fun x hx=>by rw[zd,(hB x hx).1]) hY
  have l1:(byC X).length=32:=by rw[zd,x1]
  have l2:(byC Y).length=32:=by rw[zd,y1]
  have hadd:IntKind.i64.wrap ((i:Int)+1)=((i+1:Nat):Int):=zl Om Om Om;have hAt:A.take (i+1)=A.take i++[X]:=by rw[List.take_add_one,hX];rfl
  have hBt:B.take (i+1)=B.take i++[Y]:=by rw[List.take_add_one,hY];rfl
  repeat (first|refine Tk ?_|intro _|exact Tz)
  refine WC.dT rfl Om ?_;obtain⟨b,hb⟩ : ∃ b,(!decide (X=Y))=b:=⟨_,rfl⟩
  repeat (first|refine Tk ?_|intro _|exact Tz)
  refine WC.adraw 9 (k:=?_)
  iterate 9 (first|refine DQ.does (fun s _=>zb (o':=o1+i*32) rfl rfl hlt rfl) Dp.const ?_|refine DQ.does (fun s _=>zb (o':=o2+i*32) rfl rfl hlt rfl) Dp.const ?_|refine DQ.does (fun s _=>zn (vs:=byC X) (hs:=s1) (hle:=Nat.le_add_right _ _) (hc:=hc1) (hl:=l1)) Dp.const ?_|refine DQ.does (fun s _=>zn (vs:=byC Y) (hs:=s2) (hle:=Nat.le_add_right _ _) (hc:=hc2) (hl:=l2)) Dp.const ?_|refine DQ.does (fun s _=>ux x2 y2 x1 y1 rfl rfl hb) Dp.const ?_|refine Da ?_|refine Dc ?_)
  refine DQ.anil (k:=?_);intro sx _;cases b with
  | false =>
   have hXY:X=Y:=by simpa using hb
   repeat (first|refine WO.does (zi rfl rfl hadd) ?_|refine Tj ?_|intro _|refine Tc ?_|exact Tz)
   exact WX.metI (i+1) (hs:=⟨⟨by show i+1≤A.length;omega,by show A.take (i+1)=B.take (i+1);rw[hAt,hBt,hT,hXY]⟩,by show A.length - (i+1)<A.length - i;omega⟩)
  | true =>
   have hXY:¬ X=Y:=by simpa using hb
   have hne:A≠B:=fun e=>by
    rw[e,hY] at hX;exact hXY (Option.some.inj hX).symm
   rw[decide_eq_false hne]
   repeat (first|refine Tk ?_|intro _|exact Tz)
   done
 have hi2:i=A.length:=by omega
 have hAB:A=B:=by
  rw[hi2,List.take_length,hl,List.take_length] at hT;exact hT
 rw[decide_eq_true hAB,hi2]
 repeat (first|refine Tk ?_|intro _|exact Tz)
 refine WC.dF rfl Om ?_
 repeat (first|refine Tk ?_|intro _|exact Tz)
 done
end
theorem RdF.modF {α:Type} {f:α→List Value} {pt:Option Addr} {n c:Nat} {xs:List α} {w w' : World} {gs:LN} (h:RdF f (.slice pt n c) xs w) (hm:Mod gs w w') (hb:∀ a,pt=some a→a.block ∉ gs):RdF f (.slice pt n c) xs w':=by
 obtain⟨p,c',e,h1⟩:=h;cases e;refine⟨_,_,rfl,?_⟩
 rcases h1 with h1|⟨b,o,rfl,hs⟩
 ·exact .inl h1
 ·exact .inr ⟨b,o,rfl,hs.mod hm (hb _ rfl)⟩
def bkC (ep:Nat) (ah:LN) (cep:Nat) (sD sV sO:Value):List Value:=.int .u64 (ep:Int)::(byC ah++[.int .u64 (cep:Int),sD,sV,sO])
section
variable {ep cep:Nat} {ah:LN} {sD sV sO:Value}
theorem ut (h:ah.length=32):(bkC ep ah cep sD sV sO).length=37:=by unfold bkC;rw[List.length_cons,List.length_append,zd,h];rfl
theorem ny (h:ah.length=32) (j:Nat):(bkC ep ah cep sD sV sO)[33+j]?=[.int .u64 (cep:Int),sD,sV,sO][j]?:=by
 have hb:(byC ah).length=32:=by rw[zd,h]
 unfold bkC;rw[show 33+j=(32+j)+1 from by omega,List.getElem?_cons_succ,List.getElem?_append_right Om,hb,Nat.add_sub_cancel_left]
theorem afE (h:ah.length=32):cut (bkC ep ah cep sD sV sO) 1 32=byC ah:=by
 have hb:(byC ah).length=32:=by rw[zd,h]
 show cut (byC ah++_) 0 32=_;unfold cut;rw[List.drop_zero,← hb,List.take_left]
theorem ahy (h:ah.length=32):cut (bkC ep ah cep sD sV sO) 33 3=[.int .u64 (cep:Int),sD,sV]:=by
 have hb:(byC ah).length=32:=by rw[zd,h]
 show cut (byC ah++_) 32 3=_;unfold cut;rw[← hb,List.drop_left];rfl
theorem rQ (h1:sD.oneCell'=true) (h2:sV.oneCell'=true) (h3:sO.oneCell'=true):(bkC ep ah cep sD sV sO).all Value.oneCell'=true:=by
 unfold bkC;rw[List.all_cons,List.all_append,zM];simp[h1,h2,h3];exact⟨rfl,rfl⟩
end
def vaL (p q h m:Nat) (ep:Nat) (HL:List (List Nat)) (n:Nat) (lP:Nat→List Nat):List (List Nat):=(List.range m).map (ofV ep (hOf (zN uW) HL) ((List.range n).map fun i=>osL p q h (lP i) m))
theorem jT (p q h m:Nat) (ep:Nat) (HL:List (List Nat)) (n:Nat) (lP:Nat→List Nat):(vaL p q h m ep HL n lP).flatMap byC=ofB ep (hOf (zN uW) HL) ((List.range n).map fun i=>osL p q h (lP i) m) m:=by
 unfold vaL ofB;rw[List.flatMap_map]
theorem uZ (p q h m:Nat) (ep:Nat) (HL:List (List Nat)) (n:Nat) (lP:Nat→List Nat):(vaL p q h m ep HL n lP).length=m:=by simp[vaL]
theorem qW {p q h m:Nat} {ep:Nat} {HL:List (List Nat)} {n:Nat} {lP:Nat→List Nat}:∀ X∈vaL p q h m ep HL n lP,X.length=32∧∀ b∈X,b<256:=fun X hX=>by
 obtain⟨i,_,rfl⟩:=List.mem_map.1 hX;exact⟨zI _ _,yX _ _⟩
section
variable (p q g h F m:Nat) (pt:Option Addr) (c:Nat) (N:LP) (ep:Nat) (ah:LN) (pH:Option Addr) (cH:Nat) (HL:List (List Nat)) (sV sO:Value) (gO cO:Nat) (Z:List Nw)
theorem aed (hp:p<ze) (hq:q<ze) (hg:g<ze) (hh:h<ze) (hN:zZ N) (hNl:N.length≤100) (hs:y5 p q g h (F:Int) (m:Int) N=true) (hF:F≤10) (hm:m≤10) (hm0:0<m) (hah:ah.length=32)
  (h0:0<HL.length) (hn:HL.length≤100) (h32:∀ H∈HL,H.length=32) (hb:∀ H∈HL,∀ b∈H,b<256) (hZn:Z.length=HL.length) (hZm:∀ z∈Z,z.xs.length=m) :
  Fn Tryz.prog 60 [stV p q g h (F:Int) (m:Int) (.slice pt N.length c),.agg (bkC ep ah ep (.slice pH HL.length cH) sV sO).toArray,AQ gO HL.length cO]
   (fun w=>RdF ya (.slice pt N.length c) N w∧RdF byC (.slice pH HL.length cH) HL w∧af4 (AQ gO HL.length cO) Z w) (fun v L=>∃ g c,v=AQ g m m∧L=[⟨g,70,ofB ep (hOf (zN uW) HL) (Z.map Nw.xs) m++mkz (c - m) hzC⟩]):=by
 have hO:=agJ p q g h F m pt c N ep pH cH HL (some ⟨gO,0,none⟩) cO Z hp hq hg hh hN hNl hs hF hm hm0 h0 hn h32 hb hZn hZm;have hD:=ny (ep:=ep) (cep:=ep) (sD:=.slice pH HL.length cH) (sV:=sV) (sO:=sO) hah 1;refine Fn.enter Tryz.func60 rfl rfl rfl ?_;intro w hw;obtain⟨w1,w2,w3⟩:=hw
 repeat (first|refine WO.does (zx (hc:=hD)) ?_|refine Tj ?_|intro _|refine Tc ?_|exact Tz)
 refine WO.calls (fs:=[]) (cs:=[]) hO rfl rfl rfl (fun wx hm=>⟨w1.mod hm.mod,w2.mod hm.mod,w3.mod hm.mod⟩) (fun v N' hv=>?_);obtain⟨gV,cV,rfl,rfl⟩:=hv;simp only[List.cons_append,List.nil_append]
 repeat (first|refine Tk ?_|intro _|exact Tz)
 exact WX.ret1 rfl Rv.t [_] (Lle.c Lle.nil) ⟨gV,cV,rfl,rfl⟩
end
theorem aax (gB gf:Nat) (ep cep:Nat) (ah:LN) (sD sV:Value) (p1 pO:Option Addr) (c1 cO:Nat) (A OL:List (List Nat)) (w:World) (hah:ah.length=32) (hA:∀ X∈A,X.length=32∧∀ b∈X,b<256) (hB:∀ X∈OL,X.length=32∧∀ b∈X,b<256) (hl:A.length=OL.length) (hn:A.length≤100)
  (hf:(⟨gf,54,[.int .i64 0]⟩ : Ent).ok w) (hb:Seg w gB 0 (bkC ep ah cep sD sV (.slice pO OL.length cO))) (hne:gB≠gf) (h1:RdF byC (.slice p1 A.length c1) A w) (h2:RdF byC (.slice pO OL.length cO) OL w) (hf1:∀ a,p1=some a→a.block≠gf) (hf2:∀ a,pO=some a→a.block≠gf) :
  CallsD Tryz.prog 58 ([.slice p1 A.length c1,Sx.pt gB,Sx.pt gf]:LV).toArray .returning w (fun e u' w'=>u'=.returning∧nA w [gf] (fun _ N=>N=[⟨gf,54,[.int .i64 (neE (decide (A=OL)) 11)]⟩]) e w'):=by
 have hE:=aa7 p1 pO c1 cO A OL hA hB hl hn;have hN:=iq gf (decide (A=OL)) 11 Dtt;have hO:=ny (ep:=ep) (cep:=cep) (sD:=sD) (sV:=sV) (sO:=.slice pO OL.length cO) hah 3;have hS1:RdF byC (.slice p1 A.length c1) A w:=h1;generalize decide (A=OL)=b at *;refine m6 (L:=[⟨gf,54,[.int .i64 0]⟩]) Tryz.func58 rfl rfl rfl (by simpa using hf) Sm ?_;rw[show OL.length=A.length from hl.symm] at hO h2 hb
 repeat (first|refine WO.does (zm (hs:=hb) (hle:=Nat.zero_le _) (hb:=by simpa using hne) (hc:=hO)) ?_|refine Tj ?_|intro _|refine Tc ?_|exact Tz)
 refine WO.acallR (hc:=hE) (hR:=fun wx hm=>⟨h1.modF hm.mod (fun a ha=>by simpa using hf1 a ha),h2.modF hm.mod (fun a ha=>by simpa using hf2 a ha)⟩) (k:=?_);refine WO.callsL (hc:=hN) (hp:=.cons .here .nil) (fun _ _=>trivial) (fun v N hv=>?_);obtain⟨rfl,rfl⟩:=hv;simp only[List.append_nil]
 repeat (first|refine Tk ?_|intro _|exact Tz)
 exact WX.retP_ofN (N:=[⟨gf,54,[.int .i64 (neE b 11)]⟩]) (qA rfl) Lle.left' rfl
end Sx
end
section
open Go Go.RowKit Go.BigFrame
namespace Sx
attribute [local irreducible] DQ WA WC WO WT WX yN ddH hOf wd
theorem fo (v:Value) (gB gf:Nat) (w:World):(invoke (.fn (.func 58) #[Sx.pt gB,Sx.pt gf]) #[v]).run Tryz.prog w=.ok (.enter 58 ([v,Sx.pt gB,Sx.pt gf]:LV).toArray) w:=Kr
section
variable (p q g h F m:Nat) (pt:Option Addr) (c:Nat) (N:LP) (ep:Nat) (ah:LN) (pH:Option Addr) (cH:Nat) (HL:List (List Nat)) (pV:Option Addr) (cV:Nat) (VL:List Vt) (pO:Option Addr) (cO:Nat) (OL:List (List Nat)) (pD:Option Addr) (cD:Nat) (T:List (Dd × Dk)) (pE:Option Addr) (cE:Nat) (pS:Option Addr) (cS:Nat) (SH:List Sw)
theorem eF (v a:Nat) (lP:Nat→List Nat) (hp:p<ze) (hq:q<ze) (hg:g<ze) (hh:h<ze) (hN:zZ N) (hNl:N.length≤100) (hs:y5 p q g h (F:Int) (m:Int) N=true) (hep:ep<18446744073709551616) (hah:ah.length=32) (hab:∀ b∈ah,b<256)
  (hHl:HL.length=T.length) (hHL:HL=T.map fun y=>ddH ep y.1) (hT0:0<T.length) (hTl:T.length≤100) (hTd:∀ (i:Nat) (y:Dd × Dk),T[i]?=some y→y.1.d=i+1) (hnF:N.length≤T.length+F)
  (hVt:ad4 p q g N ep v a (hOf (zN uW) HL) VL) (hV0:0<VL.length) (hVl:VL.length≤100) (ha:a≤100) (hQr:(N.length+F) / 2+1≤VL.length)
  (hOl:OL.length=m) (hOk:∀ X∈OL,X.length=32∧∀ b∈X,b<256) (hSl:SH.length≤1000) (hSn:∀ x∈SH,(∀ a∈x.P,a<ze)∧x.P.length≤100)
  (hW:∀ i y,T[i]?=some y→WyH p q g h F m N ep [] SH y.1 (lP i)) (hwB:∀ (i:Nat) (y:Dd × Dk),T[i]?=some y→wB p q g h F m N ep [] SH y.1=true) :
  Fn Tryz.prog 25 [stV p q g h (F:Int) (m:Int) (.slice pt N.length c),.agg (byC ah).toArray,.agg (bkC ep ah ep (.slice pH T.length cH) (.slice pV VL.length cV) (.slice pO OL.length cO)).toArray,evV (.slice pD T.length cD) (.slice pE 0 cE) (.slice pS SH.length cS)]
   (fun w=>RdF ya (.slice pt N.length c) N w∧EvR ep pD cD T pE cE [] pS cS SH w∧RdF byC (.slice pH T.length cH) HL w∧RdF vtC (.slice pV VL.length cV) VL w∧RdF byC (.slice pO OL.length cO) OL w∧uY w) (Is (.int .i64 (neE (decide (vaL p q h m ep HL T.length lP=OL)) 11))):=by
 obtain⟨s1,s7,_,s0,s2,s5,s8,_⟩:=zS hs;have h32:∀ H∈HL,H.length=32:=fun H hH=>by
  rw[hHL] at hH;obtain⟨x,_,rfl⟩:=List.mem_map.1 hH;exact vh _ _
 have hHb:∀ H∈HL,∀ b∈H,b<256:=fun H hH=>by
  rw[hHL] at hH;obtain⟨x,_,rfl⟩:=List.mem_map.1 hH;exact qR _ _
 have hSt:=yh p q g h (F:Int) (m:Int) pt c N hp hq hg hh hN Om Om Om Om Om;rw[hs] at hSt;have hRi:=afy ep pD cD T hTd hTl;have hSet:=ao pH cH HL Om Om h32 hHb;rw[hHl] at hSet;have hSl2:(hOf (zN uW) HL).length=32:=zI _ _;have hSb2:∀ b∈hOf (zN uW) HL,b<256:=yX _ _;have hCe:=af5 p q g h F m pt c N ep v a (hOf (zN uW) HL) pV cV VL hp hq hg hh hN hNl hs hVt hVl ha hSl2 hSb2;rw[decide_eq_true hQr] at hCe;have hSec:=rI p q g h F m pt c N ep pD cD T pE cE [] pS cS SH pH cH HL lP true hp hq hg hh hN hNl hs Om Om hep hSl hSn hT0 Om hHL hW (fun i y hy _=>hwB i y hy) (fun i y bD oD e2 d2 s2 hy=>by
  have:=qS p q g h F m pt c N ep y (some ⟨bD,oD,none⟩) cD T pE cE pS cS SH e2 d2 s2 (osL p q h (lP i) m) Om Om Om;rw[show decide (F+m≤(acu (ckY p q g h F m N ep y.1) []).length)=false from decide_eq_false (by show ¬ F+m≤0;omega)];exact this)
 have hVal:=fun (gO cO' : Nat) (Z:List Nw) (h1:Z.length=HL.length) (h2:∀ z∈Z,z.xs.length=m)=>aed p q g h F m pt c N ep ah pH cH HL (.slice pV VL.length cV) (.slice pO OL.length cO) gO cO' Z hp hq hg hh hN hNl hs Om Om Om hah Om Om h32 hHb h1 h2;rw[hHl] at hVal;have hblA:(byC ah).length=32:=by rw[zd,hah]
 have hbk:=ut (ep:=ep) (cep:=ep) (sD:=.slice pH T.length cH) (sV:=.slice pV VL.length cV) (sO:=.slice pO OL.length cO) hah;have hb3:=ny (ep:=ep) (cep:=ep) (sD:=.slice pH T.length cH) (sV:=.slice pV VL.length cV) (sO:=.slice pO OL.length cO) hah 3;have hsub:IntKind.i64.wrap ((N.length:Int) - (F:Int))=(N.length:Int) - (F:Int):=i64_in Om Om;refine Fn.enterD Tryz.func25 rfl rfl rfl ?_;intro w hw;obtain⟨w1,w2,w3,w4,w5,w6⟩:=hw
 repeat (first|refine WO.does (zw (vs:=[.int .u64 (ep:Int),.slice pH T.length cH,.slice pV VL.length cV]) (hc:=ahy hah)) ?_|refine WO.acallR (hc:=hSt) (hR:=fun wx hm=>(w1.mod hm.mod).rdK) (k:=?_)|refine Tj ?_|intro _|refine Tc ?_|exact Tz)
 rename_i gS gA gB gE gf gC;refine WO.callsL (hc:=iq gf true 1 Dtt) (hp:=.cons Pk.a .nil) (hR:=fun _ _=>trivial) (k:=fun v1 N1 hv=>?_);obtain⟨rfl,rfl⟩:=hv;simp only[neE,if_true,List.cons_append,List.nil_append]
 repeat (first|refine WO.does (zO rfl rfl Om) ?_|refine WO.does (zw (vs:=byC ah) (hc:=afE hah) (hl:=hblA)) ?_|refine WO.does (zw (vs:=byC ah) (hc:=zt hblA) (hl:=hblA)) ?_|refine WO.does (m8 hab hab hah hah rfl rfl (show decide (ah=ah)=true by simp)) ?_|refine WO.does (zx (hc:=hb3)) ?_|refine WO.does (tc rfl rfl Om) ?_|refine WO.does (zG rfl rfl hsub) ?_|refine WO.does (yP rfl rfl Om) ?_|refine WO.acallR (hc:=hRi) (hR:=fun wx hm=>w2.d.mod hm.mod) (k:=?_)|refine Tj ?_|intro _|refine Tc ?_|exact Tz)
 obtain⟨x0,hx0⟩ : ∃ x,VL[0]?=some x:=⟨_,List.getElem?_eq_getElem hV0⟩;obtain⟨bV,oV,rfl,_,hsV⟩:=id w4 |>.get hx0
 have hv0:(VL.flatMap vtC)[oV+0*44+2 - oV]?=some (.int .u32 (v:Int)):=by
  rw[show oV+0*44+2 - oV=0*44+2 from by omega,← (hVt.of 0 x0 hx0).2.1];exact vb (j:=2) (ve (k:=44) (fun y hy=>vO (hVt.ok y hy).l) hx0) rfl
 refine WC.all ?_;refine WA.step [0] (vt.cons ?_ vt.nil);refine Tw ?_;refine WO.nil (WX.wa ?_);refine WA.step [1] (vt.cons ?_ vt.nil);refine WO.callsL (hc:=iq gf true 4 Dtt) (hp:=.cons .here .nil) (hR:=fun _ _=>trivial) (k:=fun v1 N1 hv=>?_);obtain⟨rfl,rfl⟩:=hv;simp only[neE,if_true,List.cons_append,List.nil_append];refine WO.nil (WX.wa ?_);refine WA.step [2] (vt.cons ?_ vt.nil);refine Tw ?_;refine WO.nil (WX.wa ?_);refine WA.step [3] (vt.cons ?_ vt.nil);refine Tw ?_;refine WO.nil (WX.wa ?_);refine WA.strip 3 false (dj:=75) rfl rfl Dkk rfl rfl rfl ?_;refine WT.wa (main:=[0,1,2,3,18,19,20]) (T:=[(4,.agg (stC p q g h (F:Int) (m:Int) (.slice pt N.length c)).toArray),(5,Ap gB),(6,.int .u64 (ep:Int)),(7,.pointer (some ⟨gC,2,none⟩)),(8,.slice (some ⟨bV,oV,none⟩) VL.length cV),(9,.pointer (some ⟨bV,oV+0*44,none⟩)),(10,.pointer (some ⟨bV,oV+0*44+2,none⟩)),(11,.int .u32 (v:Int)),(12,.pointer (some ⟨gC,1,none⟩)),(13,.slice pH T.length cH),(14,.agg (byC (hOf (zN uW) HL)).toArray),(15,.pointer (some ⟨gC,2,none⟩)),(16,.slice (some ⟨bV,oV,none⟩) VL.length cV),(17,.bool true)]) (D:=[3,2,1,0]) ?_ rfl Dkk Dkk Dkk (by rfl);refine WT.withD [⟨gC,73,[.int .u64 (ep:Int),.slice pH T.length cH,.slice (some ⟨bV,oV,none⟩) VL.length cV]⟩,⟨gB,75,bkC ep ah ep (.slice pH T.length cH) (.slice (some ⟨bV,oV,none⟩) VL.length cV) (.slice pO OL.length cO)⟩,⟨gS,36,stC p q g h (F:Int) (m:Int) (.slice pt N.length c)⟩] Kr (Tlv.auto (Tlv.auto (Tlv.auto (Tlv.auto (Tlv.auto (Tlv.d rfl (zb (o':=oV+0*44) rfl rfl hV0 rfl) (Tlv.auto (Tlv.d rfl (zm (hs:=hsV) (hle:=by omega) (hc:=hv0)) (Tlv.auto (Tlv.auto (Tlv.call hSet (fun wx hm=>w3.mod hm.mod) (Tlv.auto (Tlv.auto (Tlv.call hCe (fun wx hm=>⟨w1.mod hm.mod,w4.mod hm.mod⟩) Tlv.nil)))))))))))))) (fun hc hT=>?_);refine WT.one (m:=18) rfl hc hT ?_;refine WO.callsL (hc:=iq gf true 10 Dtt) (hp:=.cons .here .nil) (hR:=fun _ _=>trivial) (k:=fun v1 N1 hv=>?_);obtain⟨rfl,rfl⟩:=hv;simp only[neE,if_true,List.cons_append,List.nil_append];refine WO.nil (WX.wt [(90,.bool true)] ?_);refine WT.one (m:=19) rfl hc hT ?_;refine Tw ?_;refine WO.nil (WX.wt [(91,.bool false)] ?_);refine WT.one (m:=20) rfl hc hT ?_;refine Tw ?_;refine WO.nil (WX.wt [(92,.bool false)] ?_);refine WT.fin [20] 22 hc rfl Kr ?_;clear hc hT
 repeat (first|refine Tk ?_|intro _|exact Tz)
 refine WO.calls (fs:=[]) (cs:=[]) hSec rfl rfl rfl (fun wx hm=>⟨w1.mod hm.mod,w2.mod hm.mod,w3.mod hm.mod,w6.mod hm.mod Sm⟩) (fun v1 N1 hv=>?_);obtain⟨gO,cO',Z,rfl,rfl,hZ,hZm⟩:=hv;have hZl:Z.length=T.length:=by have:=congrArg List.length hZ;simpa using this
 have hZx:∀ z∈Z,z.xs.length=m:=fun z hz=>by
  have h1:z.xs∈Z.map Nw.xs:=List.mem_map.2 ⟨z,hz,rfl⟩;rw[hZ] at h1;obtain⟨i,_,hi⟩:=List.mem_map.1 h1;rw[← hi,nx]
 have hVa:=hVal gO T.length Z Om hZx;rw[hZ,← jT] at hVa;refine WO.behind [_,_,_,_,_,_] ?_;simp only[afj,yr hT0,List.cons_append,List.nil_append]
 repeat (first|refine WO.does (zA rfl rfl rfl) ?_|refine WO.does (zH rfl rfl) ?_|refine WO.does (zw (vs:=bkC ep ah ep (.slice pH T.length cH) (.slice (some ⟨bV,oV,none⟩) VL.length cV) (.slice pO OL.length cO)) (hc:=zt hbk) (hl:=hbk)) ?_|refine Tj ?_|intro _|refine Tc ?_|exact Tz)
 refine WO.calls (fs:=[]) (cs:=[]) hVa rfl rfl rfl (fun wx hm=>⟨w1.mod hm.mod,w3.mod hm.mod,⟨RdF.ownO (Hs.sg hm) hZl,fun z hz=>aeB (hm.ok _ (by repeat (first|exact List.mem_append_left _ (dB hz)|apply List.mem_cons_of_mem)))⟩⟩) (fun v1 N1 hv=>?_);obtain⟨gV,cV',rfl,rfl⟩:=hv;simp only[List.cons_append,List.nil_append];obtain⟨A,hA⟩ : ∃ A,vaL p q h m ep HL T.length lP=A:=⟨_,rfl⟩;have hAl:A.length=m:=by rw[← hA,uZ]
 have hAok:∀ X∈A,X.length=32∧∀ b∈X,b<256:=by rw[← hA];exact qW
 rw[hA];refine WO.defersA rfl rfl (fun a1 w7 d1 d2 d3 d4=>?_);show Code.wp _ _ _ _ _;refine WO.tail (w0:=w) (gs:=[]) (n:=111) (K:=[(8,Sx.pt gf),(6,Sx.pt gB)]) d1 d2 (Kle.kn d3 Kle.a) d4 ?_;refine Tw ?_;refine WO.stores zo ?_;refine WO.nil (WX.un (fun a2 w8 h1 h2 h3 h4=>?_));show Code.wp _ _ _ _ _;refine wp_ret ?_;have hds:(dfA [{ target:=.fn (.func 58) #[Sx.pt gB,Sx.pt gf],args:=#[AQ gV m m] }] a2).defers=[{ target:=.fn (.func 58) #[Sx.pt gB,Sx.pt gf],args:=#[AQ gV m m] }]:=by simp[dfA,h1]
 show Leaves Tryz.prog Tryz.f25 a2.tmps _ (dfA [{ target:=.fn (.func 58) #[Sx.pt gB,Sx.pt gf],args:=#[AQ gV m m] }] a2).defers .returning w8;rw[hds];have hnd:=h4.nodup;simp only[List.map_cons,List.nodup_cons,List.mem_cons,not_or] at hnd;have hBf:gB≠gf:=fun e=>hnd.2.1.2.2.1 e.symm;have hVf:gV≠gf:=hnd.1.1;have hgf:w.heap.size≤gf:=(h4.mine ⟨gf,54,[.int .i64 0]⟩ Sm).resolve_right Sm;have hm8:=h4.mr;have hD:=aax gB gf ep ep ah (.slice pH T.length cH) (.slice (some ⟨bV,oV,none⟩) VL.length cV) (some ⟨gV,0,none⟩) pO m cO A OL w8 hah hAok hOk Om Om (h4.ok _ Sm) (Hs.sg hm8) hBf (RdF.ownO (Hs.sg hm8) rfl) (w5.mod h4.mod) (fun b hb=>by cases hb;exact hVf) (fun b hb=>by
  subst hb;obtain⟨b0,o0,_⟩:=b;have hne:OL≠[]:=fun e=>by rw[e] at hOl;simp at hOl;omega
  have h5:=w5;obtain⟨_,_,e,h6⟩:=id w5;cases e
  rcases h6 with ⟨h6,_⟩|⟨b1,o1,e1,hs1⟩
  ·cases h6
  ·cases e1
   obtain⟨X,r,hX⟩ : ∃ X r,OL=X::r:=by
    cases OL with
    | nil=>exact absurd rfl hne
    | cons X r=>exact⟨X,r,rfl⟩
   have hXl:=(hOk X (by rw[hX];exact List.mem_cons_self ..)).1
   obtain⟨x,xs,hx⟩ : ∃ x xs,X=x::xs:=by
    cases X with
    | nil=>simp at hXl
    | cons x xs=>exact⟨x,xs,rfl⟩
   rw[hX,hx] at hs1;have h7:=Seg.lt1 hs1;show b0≠gf;omega)
 rw[hAl] at hD;refine leaves_cons (f:=58) (args:=([AQ gV m m,Sx.pt gB,Sx.pt gf]:LV).toArray) Sm (fo _ gB gf _) ?_;refine hD.mono ?_;rintro e u' w9 ⟨rfl,v9,N9,rfl,hm9,rfl⟩;have h10:=Me.callL (M:=[_]) (h4.perm (List.Perm.swap _ _ _)) hm9;exact Leaves.done (K:=[(110,.int .i64 0),(8,Sx.pt gf),(6,Sx.pt gB)]) h3 h10 (abT rfl (tJ (p:=8) rfl Hs.here rfl)) Lle.nil rfl
end
end Sx
end
end Go.Proofs.YtiaibpcaloigkaaGreatDoor
