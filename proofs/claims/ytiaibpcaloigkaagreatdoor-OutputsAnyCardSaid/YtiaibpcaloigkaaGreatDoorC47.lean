/- Part 47 of the proof. -/
import Derived.Test.YtiaibpcaloigkaaGreatDoorC45
set_option linter.unusedSimpArgs false
set_option linter.unusedVariables false
set_option maxHeartbeats 8000000
namespace Go.Proofs.YtiaibpcaloigkaaGreatDoor
section
open Go Go.RowKit Go.BigFrame
namespace Sx
attribute [local irreducible] DQ WC WO WX wd
theorem ac7 (o:Od):(kI o).length=1:=rfl
theorem acQ (o:Od):(zI o).length=4:=rfl
theorem tZ {f:Od→List Value} {k:Nat} (hk:∀ x,(f x).length=k) {z:LV} (hz:z.length=k) {l:List Od} {i:Nat} {x:Od} {n:Nat} (hn:l.length=n) (hx:l[i]?=some x):over ((l.take i).flatMap f++mkz (n - i) z) (0+i*k) (f x)=(l.take (i+1)).flatMap f++mkz (n - (i+1)) z:=by
 have hi:=(List.getElem?_eq_some_iff.1 hx).1;have:=rK (f:=f) (z:=z) (m:=n - i) hk hz hx Om;rw[hz,show n - i - 1=n - (i+1) by omega] at this;rw[Nat.zero_add];exact this
theorem rF {f:Od→List Value} {k:Nat} (hk:∀ x,(f x).length=k) {z:LV} (hz:z.length=k) {l:List Od} {i:Nat} {n:Nat} (hn:l.length=n) (hi:i<n):Nat.ble (0+i*k+k) ((l.take i).flatMap f++mkz (n - i) z).length=true:=by
 rw[Nat.ble_eq,List.length_append,zy hk,zW,List.length_take,hz,Nat.zero_add,Nat.min_eq_left Om];have:1*k≤(n - i)*k:=Nat.mul_le_mul_right _ Om;omega
section
variable (p q g h:Nat) (pt:Option Addr) (c:Nat) (N:LP) (pl:Option Addr) (cl:Nat) (ls:List Od)
theorem k8 {f sec:Int} {l' : List Od} (hp:l'.Perm ls) {k:Nat} {x y:Od} (hx:l'[k]?=some x) (hy:l'[k+1]?=some y) (he:x.n=y.n):vQ p q g h f sec N ls=false:=by
 rw[Bool.eq_false_iff];intro hB;obtain⟨_,_,_,hd⟩:=r7 hB;have hd':=((hp.map Od.n).nodup_iff).2 hd;obtain⟨h1,rfl⟩:=List.getElem?_eq_some_iff.1 hx;obtain⟨h2,rfl⟩:=List.getElem?_eq_some_iff.1 hy;exact List.pairwise_iff_getElem.1 hd' k (k+1) (by simpa using h1) (by simpa using h2) (Nat.lt_succ_self k) (by simpa using he)
theorem bj {f sec:Int} (hs:yW p q g h f sec N=true) (hl:f+sec≤(ls.length:Int)) (ha:∀ (j:Nat) (x:Od),ls[j]?=some x→odB p N (ls.headD od0) x=true) (hd:(ls.map Od.n).Nodup):vQ p q g h f sec N ls=true:=by
 unfold vQ;rw[hs,decide_eq_true hl,decide_eq_true hd,Bool.true_and,Bool.and_true,Bool.true_and,List.all_eq_true];intro x hx;obtain⟨j,hj⟩:=List.getElem?_of_mem hx;exact ha j x hj
def oRY (M m:Nat):Value→List Ent→Prop:=ae3 (wtE q ((rKs N.length M ls).map (· + 1)) ((rKs N.length M ls).map (· + 1)).length) m ((rsL p q ((rKs N.length M ls).map (· + 1)) (rZs N.length M ls) m).flatMap zc)
theorem cF (F m:Nat) (hp:p<zd) (hq:q<zd) (hg:g<zd) (hh:h<zd) (hN:zV N) (hNl:N.length≤100) (hls:∀ o∈ls,ae6 o) (hn:ls.length≤100)
  (hs:yW p q g h (F:Int) (m:Int) N=true) (hlen:F+m≤ls.length) (hle:ls.length≤N.length) :
  Fn Tryz.prog 95 [stV p q g h (F:Int) (m:Int) (.slice pt N.length c),.slice pl ls.length cl] (fun w=>RdF yx (.slice pt N.length c) N w∧RdF odC (.slice pl ls.length cl) ls w)
   (RsP (vQ p q g h (F:Int) (m:Int) N ls) (oRY p q N ls (F+m) m)):=by
 have hsp:=ya hs;have hsm:=nK hs;have hS:=z8 p q g h (F:Int) (m:Int) pt c N hp hq hg hh hN Om Om Om Om Om;rw[hs] at hS;have hadd:IntKind.i64.wrap ((F:Int)+(m:Int))=((F+m:Nat):Int):=by rw[show (F:Int)+(m:Int)=((F+m:Nat):Int) by omega];exact i64_in Om Om
 have hN7:N.length≤7:=hsp.2.1;have hF5:F+m≤5:=by omega
 have hm1:1≤m:=by omega
 have hm3:m≤3:=by omega
 have hmq:m<q:=by omega
 have hNq:N.length<q:=hsp.2.2.1;have hp1:1<p:=(yX hsp.2.2.2.2.2.2.1).1;have hz0:(0:Nat)<zd:=by decide
 have hB' : (∀ (j:Nat) (x:Od),ls[j]?=some x→odB p N (ls.headD od0) x=true)→(ls.map Od.n).Nodup→vQ p q g h (F:Int) (m:Int) N ls=true:=bj p q g h N ls hs Om;clear hsp hsm hN hg hh hs;generalize hF:F+m=M at *;have hlt0:¬ ((ls.length:Nat):Int)<((M:Nat):Int):=by omega
 have hgt0:¬ ((ls.length:Nat):Int) > ((N.length:Nat):Int):=by omega
 refine Fn.enter Tryz.func95 rfl rfl rfl ?_;intro w hw;obtain⟨wK,wO⟩:=hw
 repeat (first|refine WO.acallR (hc:=hS) (hR:=fun w1 hm=>(wK.mod hm.mod).rdK) (k:=?_)|refine WO.does (ze rfl rfl hadd) ?_|refine WO.does (zO rfl rfl hlt0) ?_|refine WO.does (yb rfl rfl hgt0) ?_|refine Tj ?_|intro _|(refine WO.makes (zS (l:=ls.length) (c:=ls.length) rfl rfl (Nat.le_refl _) Om Om) ?_;intro _)|refine Tc ?_|exact Tz)
 rename_i gS gA
 refine WC.loopI (σ:=Nat) (fun i=>i≤ls.length∧∀ (j:Nat) (x:Od),j<i→ls[j]?=some x→odB p N (ls.headD od0) x=true)
  (fun i=>[(1,.slice pl ls.length cl),(2,Sx.pt gS),(6,.int .i64 (M:Int)),(7,AX gA ls.length ls.length),(41,.slice pl ls.length cl),(42,.int .i64 (ls.length:Int)),(43,.int .i64 (i:Int))])
  (fun i=>[⟨gA,266,(ls.take i).flatMap odC++mkz (ls.length - i) (odC od0)⟩,⟨gS,36,stC p q g h (F:Int) (m:Int) (.slice pt N.length c)⟩]) (fun i=>ls.length - i) 0 (fun i hi=>?_) ⟨Nat.zero_le _,fun j x h=>absurd h (Nat.not_lt_zero _)⟩
 try dsimp only at hi ⊢
 obtain⟨hi,hok⟩:=hi
 by_cases hil:i<ls.length
 ·obtain⟨x,hx⟩ : ∃ y,ls[i]?=some y:=⟨_,List.getElem?_eq_getElem hil⟩;have h0l:0<ls.length:=by omega
  obtain⟨x0,hx0⟩ : ∃ y,ls[0]?=some y:=⟨_,List.getElem?_eq_getElem h0l⟩;have hhd:=aI hx0;have hxm:=List.mem_of_getElem? hx;have hxo:=hls x hxm;have hx0o:=hls x0 (List.mem_of_getElem? hx0);obtain⟨b,o,e,_,hsg⟩:=id wO |>.get hx
  subst e;have hci:=eQ (o:=o) hx;have hce0:=agR (o:=o) hx0 (j:=0) (v:=.int .u64 (x0.e:Int)) rfl Dt;have hcd0:=agR (o:=o) hx0 (j:=1) (v:=.int .u8 (x0.d:Int)) rfl Dt;have haddi:IntKind.i64.wrap ((i:Int)+1)=((i+1:Nat):Int):=zo Om Om Om;have hNo:=tY p q g h (F:Int) (m:Int) pt c N x.n hxo.n Om;have hE:=vd p q g h x.z 0 hxo.z hz0 hp;have hO1:=aaJ x.e x.d hxo.d;have hO0:=aaJ x0.e x0.d hx0o.d;have hxd:x.d<18446744073709551616:=Nat.lt_trans hxo.d Dt;have hx0d:x0.d<18446744073709551616:=Nat.lt_trans hx0o.d Dt;have hov:=tZ (f:=odC) vB (z:=odC od0) (vB od0) rfl hx;have hln:=rF (f:=odC) vB (z:=odC od0) (vB od0) (l:=ls) rfl hil;simp only[rE] at hE;generalize hA2:(ls.take (i+1)).flatMap odC++mkz (ls.length - (i+1)) (odC od0)=A2 at *;generalize (ls.take i).flatMap odC++mkz (ls.length - i) (odC od0)=A1 at *;cases hmy:yw p x.z with
  | true =>
   rw[hmy] at hE;rw[show okE true=0 from rfl] at hE;generalize okV true (x.z ^ 0%p)=ez at hE
   by_cases hed:x.e=x0.e∧x.d=x0.d
   ·have hpr:(!(decide (x.e=x0.e) && decide (x.d=x0.d)))=false:=by rw[decide_eq_true hed.1,decide_eq_true hed.2];rfl
    cases hnb:ut x.n N with
    | true =>
     rw[hnb] at hNo;have hgood:odB p N x0 x=true:=by unfold odB;rw[decide_eq_true hed.1,decide_eq_true hed.2,hnb,hmy];rfl
     repeat (first|refine Tk ?_|intro _|exact Tz)
     refine WC.dT rfl Om ?_
     repeat (first|refine WO.does (zb (o':=o+i*15) rfl rfl hil rfl) ?_|refine WO.does (zk (vs:=odC x) (hs:=hsg) (hle:=by omega) (hc:=hci)) ?_|refine Tj ?_|intro _|refine WO.acall (hc:=hE) (k:=?_)|refine Tc ?_|exact Tz)
     refine WC.adraw 26 (k:=?_)
     iterate 26 (first|refine DQ.does (fun s _=>zt rfl rfl rfl) Dp.const ?_|refine DQ.does (fun s _=>zb (o':=o+0*15) rfl rfl h0l rfl) Dp.const ?_|refine DQ.does (fun s _=>zn (hs:=hsg) (hle:=by omega) (hc:=hce0)) Dp.const ?_|refine DQ.does (fun s _=>zn (hs:=hsg) (hle:=by omega) (hc:=hcd0)) Dp.const ?_|refine DQ.does (fun s _=>vn rfl rfl hxo.e hxd hx0o.e hx0d hpr) Dp.const ?_|refine DQ.acallM (hc:=hO1) (hR:=fun _ _=>trivial) (k:=?_)|refine DQ.acallM (hc:=hO0) (hR:=fun _ _=>trivial) (k:=?_)|refine DQ.acallM (hc:=hNo) (hR:=fun _ _=>trivial) (k:=?_)|refine Da ?_|refine Dc ?_)
     refine DQ.anil (k:=?_);intro sx _
     repeat (first|refine WO.does (zb (o':=0+i*15) rfl rfl hil rfl) ?_|refine WO.stores (zz (vs:=odC x) (cs':=A2) (hc:=hov) (hle:=hln)) ?_|refine WO.does (ze rfl rfl haddi) ?_|refine Tj ?_|intro _|refine Tc ?_|exact Tz)
     subst hA2;exact WX.metI (i+1) (hs:=⟨⟨by show i+1≤ls.length;omega,fun j x' h1 h2=>by
      by_cases hj:j=i
      ·subst hj;rw[hx] at h2;cases h2;rw[hhd];exact hgood
      ·exact hok j x' Om h2⟩,by show ls.length - (i+1)<ls.length - i;omega⟩)
    | false =>
     rw[hnb] at hNo;have hbad:odB p N x0 x=false:=by unfold odB;rw[hnb,Bool.and_false];rfl
     repeat (first|refine Tk ?_|intro _|exact Tz)
     refine WC.dT rfl Om ?_
     repeat (first|refine WO.does (zb (o':=o+i*15) rfl rfl hil rfl) ?_|refine WO.does (zk (vs:=odC x) (hs:=hsg) (hle:=by omega) (hc:=hci)) ?_|refine Tj ?_|intro _|refine WO.acall (hc:=hE) (k:=?_)|refine Tc ?_|exact Tz)
     refine WC.adraw 26 (k:=?_)
     iterate 26 (first|refine DQ.does (fun s _=>zt rfl rfl rfl) Dp.const ?_|refine DQ.does (fun s _=>zb (o':=o+0*15) rfl rfl h0l rfl) Dp.const ?_|refine DQ.does (fun s _=>zn (hs:=hsg) (hle:=by omega) (hc:=hce0)) Dp.const ?_|refine DQ.does (fun s _=>zn (hs:=hsg) (hle:=by omega) (hc:=hcd0)) Dp.const ?_|refine DQ.does (fun s _=>vn rfl rfl hxo.e hxd hx0o.e hx0d hpr) Dp.const ?_|refine DQ.acallM (hc:=hO1) (hR:=fun _ _=>trivial) (k:=?_)|refine DQ.acallM (hc:=hO0) (hR:=fun _ _=>trivial) (k:=?_)|refine DQ.acallM (hc:=hNo) (hR:=fun _ _=>trivial) (k:=?_)|refine Da ?_|refine Dc ?_)
     refine DQ.anil (k:=?_);intro sx _
     repeat (first|refine Tk ?_|intro _|exact Tz)
     exact WX.ret2 rfl Rv.t Rv.t [] Lle.nil (RsP.no (si hxm (by rw[hhd];exact hbad)))
   ·have hpr:(!(decide (x.e=x0.e) && decide (x.d=x0.d)))=true:=by
     rcases Decidable.not_and_iff_or_not.1 hed with h|h
     ·rw[decide_eq_false h];rfl
     ·rw[decide_eq_false h,Bool.and_false];rfl
    have hbad:odB p N x0 x=false:=by
     unfold odB
     rcases Decidable.not_and_iff_or_not.1 hed with h|h
     ·rw[decide_eq_false h];rfl
     ·rw[decide_eq_false h,Bool.and_false];rfl
    repeat (first|refine Tk ?_|intro _|exact Tz)
    refine WC.dT rfl Om ?_
    repeat (first|refine WO.does (zb (o':=o+i*15) rfl rfl hil rfl) ?_|refine WO.does (zk (vs:=odC x) (hs:=hsg) (hle:=by omega) (hc:=hci)) ?_|refine Tj ?_|intro _|refine WO.acall (hc:=hE) (k:=?_)|refine Tc ?_|exact Tz)
    refine WC.adraw 26 (k:=?_)
    iterate 26 (first|refine DQ.does (fun s _=>zt rfl rfl rfl) Dp.const ?_|refine DQ.does (fun s _=>zb (o':=o+0*15) rfl rfl h0l rfl) Dp.const ?_|refine DQ.does (fun s _=>zn (hs:=hsg) (hle:=by omega) (hc:=hce0)) Dp.const ?_|refine DQ.does (fun s _=>zn (hs:=hsg) (hle:=by omega) (hc:=hcd0)) Dp.const ?_|refine DQ.does (fun s _=>vn rfl rfl hxo.e hxd hx0o.e hx0d hpr) Dp.const ?_|refine DQ.acallM (hc:=hO1) (hR:=fun _ _=>trivial) (k:=?_)|refine DQ.acallM (hc:=hO0) (hR:=fun _ _=>trivial) (k:=?_)|refine Da ?_|refine Dc ?_)
    refine DQ.anil (k:=?_);intro sx _
    repeat (first|refine Tk ?_|intro _|exact Tz)
    exact WX.ret2 rfl Rv.t Rv.t [] Lle.nil (RsP.no (si hxm (by rw[hhd];exact hbad)))
  | false =>
   rw[hmy] at hE;rw[show okE false=1 from rfl] at hE;generalize okV false (x.z ^ 0%p)=ez at hE;have hbad:odB p N x0 x=false:=by unfold odB;rw[hmy,Bool.and_false]
   repeat (first|refine Tk ?_|intro _|exact Tz)
   refine WC.dT rfl Om ?_
   repeat (first|refine WO.does (zb (o':=o+i*15) rfl rfl hil rfl) ?_|refine WO.does (zk (vs:=odC x) (hs:=hsg) (hle:=by omega) (hc:=hci)) ?_|refine Tj ?_|intro _|refine WO.acall (hc:=hE) (k:=?_)|refine Tc ?_|exact Tz)
   refine WC.adraw 26 (k:=?_)
   iterate 26 (first|refine DQ.does (fun s _=>zZ rfl rfl Dt) Dp.const ?_|refine Da ?_|refine Dc ?_)
   refine DQ.anil (k:=?_);intro sx _
   repeat (first|refine Tk ?_|intro _|exact Tz)
   exact WX.ret2 rfl Rv.t Rv.t [] Lle.nil (RsP.no (si hxm (by rw[hhd];exact hbad)))
 ·have hi3:i=ls.length:=by omega
  subst hi3;have hok' : ∀ (j:Nat) (x:Od),ls[j]?=some x→odB p N (ls.headD od0) x=true:=fun j x hj=>hok j x (List.getElem?_eq_some_iff.1 hj).1 hj;have hSo:=fun gA=>fO ls gA ls.length Om;rw[List.take_length,Nat.sub_self,show mkz 0 (odC od0)=[] from rfl,List.append_nil];clear hok
  repeat (first|refine Tk ?_|intro _|exact Tz)
  refine WC.dF rfl Om ?_
  repeat (first|refine Tk ?_|intro _|exact Tz)
  refine WO.callsL (hc:=hSo gA) (hp:=.cons Pk.a .nil) (fun _ _=>trivial) (fun v N' hv=>?_);obtain⟨rfl,l',hpm,hpw,rfl⟩:=hv;have hll:=hpm.length_eq
  try dsimp only[List.cons_append,List.nil_append]
  repeat (first|refine Tk ?_|intro _|exact Tz)
  refine WC.adraw 8 (k:=?_)
  iterate 2 refine Dx ?_
  refine DQ.makes (vf:=fun _ g=>AX g ls.length ls.length) (t:=3) (cs:=fun _=>mkz ls.length [.int .i64 0]) (fun s _=>zS (l:=ls.length) (c:=ls.length) rfl rfl (Nat.le_refl _) Om Om) Dp.const Dp.const ?_
  iterate 2 refine Dx ?_
  refine DQ.makes (vf:=fun _ g=>AX g ls.length ls.length) (t:=24) (cs:=fun _=>mkz ls.length (zc 0)) (fun s _=>zS (l:=ls.length) (c:=ls.length) rfl rfl (Nat.le_refl _) Om Om) Dp.const Dp.const ?_
  iterate 2 (refine DQ.auto (k:=?_))
  refine DQ.anil (k:=?_);intro sx _;generalize sx 2 0=gK;generalize sx 5 0=gZ;clear sx
  repeat (first|refine Tk ?_|intro _|exact Tz)
  refine WC.loopI (σ:=Nat) (fun i=>i≤ls.length∧∀ (j:Nat) (a b:Od),j+1<i→l'[j]?=some a→l'[j+1]?=some b→a.n≠b.n)
   (fun i=>[(2,Sx.pt gS),(6,.int .i64 (M:Int)),(7,AX gA ls.length ls.length),(12,AX gK ls.length ls.length),(13,AX gZ ls.length ls.length),(96,AX gA ls.length ls.length),(97,.int .i64 (ls.length:Int)),(98,.int .i64 (i:Int))])
   (fun i=>[⟨gZ,24,(l'.take i).flatMap zI++mkz (ls.length - i) (zc 0)⟩,⟨gK,3,(l'.take i).flatMap kI++mkz (ls.length - i) [.int .i64 0]⟩,⟨gA,266,l'.flatMap odC⟩,⟨gS,36,stC p q g h (F:Int) (m:Int) (.slice pt N.length c)⟩]) (fun i=>ls.length - i) 0 (fun i hi=>?_) ⟨Nat.zero_le _,fun j x y h=>absurd h (Nat.not_lt_zero _)⟩
  try dsimp only at hi ⊢
  obtain⟨hi,hdi⟩:=hi
  by_cases hil:i<ls.length
  ·obtain⟨y,hy⟩ : ∃ y,l'[i]?=some y:=⟨_,List.getElem?_eq_getElem Om⟩;have hym:y∈ls:=hpm.mem_iff.1 (List.mem_of_getElem? hy);have hyo:=hls y hym;have hy1:1≤y.n:=by
    obtain⟨j,hj⟩:=List.getElem?_of_mem hym;exact (tU (hok' j y hj)).2.2.1
   have hcy:=iS hy;have haddi:IntKind.i64.wrap ((i:Int)+1)=((i+1:Nat):Int):=zo Om Om Om;have hcv:IntKind.i64.wrap (y.n:Int)=(y.n:Int):=by have:=hyo.n;exact i64_in Om Om
   have hsub:IntKind.i64.wrap ((y.n:Int) - 1)=((y.n - 1:Nat):Int):=by have:=hyo.n;rw[show (y.n:Int) - 1=((y.n - 1:Nat):Int) by omega];exact i64_in Om Om
   have hovK:=tZ (f:=kI) ac7 (z:=[.int .i64 0]) rfl hll hy;have hlnK:=rF (f:=kI) ac7 (z:=[.int .i64 0]) rfl hll hil;have hovZ:=tZ (f:=zI) acQ (z:=zc 0) rfl hll hy;have hlnZ:=rF (f:=zI) acQ (z:=zc 0) rfl hll hil;generalize hK2:(l'.take (i+1)).flatMap kI++mkz (ls.length - (i+1)) [.int .i64 0]=K2 at *;generalize (l'.take i).flatMap kI++mkz (ls.length - i) [.int .i64 0]=K1 at *;generalize hZ2:(l'.take (i+1)).flatMap zI++mkz (ls.length - (i+1)) (zc 0)=Z2 at *;generalize (l'.take i).flatMap zI++mkz (ls.length - i) (zc 0)=Z1 at *;rw[show kI y=[.int .i64 ((y.n - 1:Nat):Int)] from rfl] at hovK;rw[show zI y=zc y.z from rfl] at hovZ;generalize y.n - 1=yn at *
   rcases i with _|k
   ·have hgt:¬ ((0:Nat):Int) > 0:=by omega
    repeat (first|refine Tk ?_|intro _|exact Tz)
    refine WC.dT rfl Om ?_
    repeat (first|refine WO.does (zb (o':=0+0*15) rfl rfl hil rfl) ?_|refine WO.does (zE (vs:=odC y) (hc:=hcy)) ?_|refine Tj ?_|intro _|refine Tc ?_|exact Tz)
    rename_i gX;refine WC.adraw 12 (k:=?_)
    iterate 12 (first|refine DQ.does (fun s _=>yb rfl rfl hgt) Dp.const ?_|refine Da ?_|refine Dc ?_)
    refine DQ.anil (k:=?_);intro sx _
    repeat (first|refine Tk ?_|intro _|exact Tz)
    refine WC.mainV [11,12,13] [(0,AX gK ls.length ls.length),(1,.int .i64 ((0:Nat):Int)),(2,AX gZ ls.length ls.length),(3,.int .i64 ((0:Nat):Int)),(4,.pointer (some ⟨gX,2,none⟩)),(5,.int .u8 (y.n:Int)),(6,.int .i64 (y.n:Int)),(7,.int .i64 (yn:Int)),(8,.pointer (some ⟨gX,3,none⟩)),(9,zj y.z),(10,.pointer (some ⟨gK,0+0*1,none⟩))] Dt ?_;refine WT.with [⟨gX,266,odC y⟩] Kr (Tlv.auto (Tlv.auto (Tlv.auto (Tlv.auto (Tlv.auto (Tlv.auto (Tlv.auto (Tlv.auto (Tlv.auto (Tlv.auto (Tlv.auto Tlv.nil (ho:=by rfl) (h:=by exact (zb (o':=0+0*1) rfl rfl hil rfl))) (ho:=by rfl) (h:=by exact (zE (vs:=zc y.z) (hc:=rfl))))) (ho:=by rfl) (h:=by exact (zr rfl rfl hsub))) (ho:=by rfl) (h:=by exact (zC rfl hcv))) (ho:=by rfl) (h:=by exact (zJ (hc:=rfl))))))))) (fun hc hT=>?_)
    refine WT.one (m:=11) rfl hc hT ?_;refine WO.stores (zz (vs:=[.int .i64 (yn:Int)]) (cs':=K2) (hc:=hovK) (hle:=hlnK)) ?_;refine WO.nil (WX.wt [] ?_);refine WT.one (m:=12) rfl hc hT ?_;refine WO.does (zb (o':=0+0*4) rfl rfl hil rfl) ?_;refine WO.nil (WX.wt [(126,.pointer (some ⟨gZ,0+0*4,none⟩))] ?_);refine WT.one (m:=13) rfl hc hT ?_;refine WO.stores (zz (vs:=zc y.z) (cs':=Z2) (hc:=hovZ) (hle:=hlnZ)) ?_;refine WO.nil (WX.wt [] ?_);refine WT.fin [13] 1 hc rfl (by rfl) ?_;clear hc hT
    repeat (first|refine WO.does (ze rfl rfl haddi) ?_|refine Tj ?_|intro _|refine Tc ?_|exact Tz)
    subst hK2 hZ2;exact WX.metI (0+1) (hs:=⟨⟨by show 0+1≤ls.length;omega,fun j a b h=>absurd h Om⟩,by show ls.length - (0+1)<ls.length - 0;omega⟩)
   ·obtain⟨x,hx⟩ : ∃ y,l'[k]?=some y:=⟨_,List.getElem?_eq_getElem Om⟩;have hkl:k<ls.length:=by omega
    have hcx:=iS hx;have hgt:((k+1:Nat):Int) > 0:=by omega
    have hsubk:IntKind.i64.wrap (((k+1:Nat):Int) - 1)=((k:Nat):Int):=by rw[show ((k+1:Nat):Int) - 1=((k:Nat):Int) by omega];exact i64_in Om Om
    have hA:=bB x y
    by_cases hxy:x.n=y.n
    ·have hez:nD x.n y.n=0:=nX.2 hxy
     repeat (first|refine Tk ?_|intro _|exact Tz)
     refine WC.dT rfl Om ?_
     repeat (first|refine WO.does (zb (o':=0+(k+1)*15) rfl rfl hil rfl) ?_|refine WO.does (zE (vs:=odC y) (hc:=hcy)) ?_|refine Tj ?_|intro _|refine Tc ?_|exact Tz)
     refine WC.adraw 12 (k:=?_)
     iterate 12 (first|refine DQ.does (fun s _=>yV rfl rfl hgt) Dp.const ?_|refine DQ.does (fun s _=>zr rfl rfl hsubk) Dp.const ?_|refine DQ.does (fun s _=>zb (o':=0+k*15) rfl rfl hkl rfl) Dp.const ?_|refine DQ.does (fun s _=>zE (vs:=odC x) (hc:=hcx)) Dp.const ?_|refine DQ.acallM (hc:=hA) (hR:=fun _ _=>trivial) (k:=?_)|refine DQ.does (fun s _=>zP rfl rfl hez) Dp.const ?_|refine Da ?_|refine Dc ?_)
     refine DQ.anil (k:=?_);intro sx _
     repeat (first|refine Tk ?_|intro _|exact Tz)
     exact WX.ret2 rfl Rv.t Rv.t [] Lle.nil (RsP.no (k8 p q g h N ls hpm hx hy hxy))
    ·have hez:nD x.n y.n≠0:=fun e=>hxy (nX.1 e);have hdi2:∀ (j:Nat) (a b:Od),j+1<k+1+1→l'[j]?=some a→l'[j+1]?=some b→a.n≠b.n:=fun j a b h1 h2 h3=>by
      by_cases hj:j=k
      ·subst hj;rw[hx] at h2;rw[hy] at h3;cases h2;cases h3;exact hxy
      ·exact hdi j a b Om h2 h3
     repeat (first|refine Tk ?_|intro _|exact Tz)
     refine WC.dT rfl Om ?_
     repeat (first|refine WO.does (zb (o':=0+(k+1)*15) rfl rfl hil rfl) ?_|refine WO.does (zE (vs:=odC y) (hc:=hcy)) ?_|refine Tj ?_|intro _|refine Tc ?_|exact Tz)
     rename_i gX;refine WC.adraw 12 (k:=?_)
     iterate 12 (first|refine DQ.does (fun s _=>yV rfl rfl hgt) Dp.const ?_|refine DQ.does (fun s _=>zr rfl rfl hsubk) Dp.const ?_|refine DQ.does (fun s _=>zb (o':=0+k*15) rfl rfl hkl rfl) Dp.const ?_|refine DQ.does (fun s _=>zE (vs:=odC x) (hc:=hcx)) Dp.const ?_|refine DQ.acallM (hc:=hA) (hR:=fun _ _=>trivial) (k:=?_)|refine DQ.does (fun s _=>zQ rfl rfl hez) Dp.const ?_|refine Da ?_|refine Dc ?_)
     refine DQ.anil (k:=?_);intro sx _
     repeat (first|refine Tk ?_|intro _|exact Tz)
     refine WC.mainV [11,12,13] [(0,AX gK ls.length ls.length),(1,.int .i64 ((k+1:Nat):Int)),(2,AX gZ ls.length ls.length),(3,.int .i64 ((k+1:Nat):Int)),(4,.pointer (some ⟨gX,2,none⟩)),(5,.int .u8 (y.n:Int)),(6,.int .i64 (y.n:Int)),(7,.int .i64 (yn:Int)),(8,.pointer (some ⟨gX,3,none⟩)),(9,zj y.z),(10,.pointer (some ⟨gK,0+(k+1)*1,none⟩))] Dt ?_;refine WT.with [⟨gX,266,odC y⟩] Kr (Tlv.auto (Tlv.auto (Tlv.auto (Tlv.auto (Tlv.auto (Tlv.auto (Tlv.auto (Tlv.auto (Tlv.auto (Tlv.auto (Tlv.auto Tlv.nil (ho:=by rfl) (h:=by exact (zb (o':=0+(k+1)*1) rfl rfl hil rfl))) (ho:=by rfl) (h:=by exact (zE (vs:=zc y.z) (hc:=rfl))))) (ho:=by rfl) (h:=by exact (zr rfl rfl hsub))) (ho:=by rfl) (h:=by exact (zC rfl hcv))) (ho:=by rfl) (h:=by exact (zJ (hc:=rfl))))))))) (fun hc hT=>?_)
     refine WT.one (m:=11) rfl hc hT ?_;refine WO.stores (zz (vs:=[.int .i64 (yn:Int)]) (cs':=K2) (hc:=hovK) (hle:=hlnK)) ?_;refine WO.nil (WX.wt [] ?_);refine WT.one (m:=12) rfl hc hT ?_;refine WO.does (zb (o':=0+(k+1)*4) rfl rfl hil rfl) ?_;refine WO.nil (WX.wt [(126,.pointer (some ⟨gZ,0+(k+1)*4,none⟩))] ?_);refine WT.one (m:=13) rfl hc hT ?_;refine WO.stores (zz (vs:=zc y.z) (cs':=Z2) (hc:=hovZ) (hle:=hlnZ)) ?_;refine WO.nil (WX.wt [] ?_);refine WT.fin [13] 1 hc rfl (by rfl) ?_;clear hc hT
     repeat (first|refine WO.does (ze rfl rfl haddi) ?_|refine Tj ?_|intro _|refine Tc ?_|exact Tz)
     subst hK2 hZ2;exact WX.metI ((k+1)+1) (hs:=⟨⟨by show (k+1)+1≤ls.length;omega,hdi2⟩,by show ls.length - ((k+1)+1)<ls.length - (k+1);omega⟩)
  ·have hi4:i=ls.length:=by omega
   subst hi4;rw[show l'.take ls.length=l' by rw[← hll,List.take_length],Nat.sub_self,show mkz 0 [Value.int .i64 0]=[] from rfl,show mkz 0 (zc 0)=[] from rfl,List.append_nil,List.append_nil];have hnd:(ls.map Od.n).Nodup:=((hpm.map Od.n).nodup_iff).1 (sE hpw (fun j a b h1 h2=>hdi j a b (by have:=(List.getElem?_eq_some_iff.1 h2).1;omega) h1 h2));have hB:=hB' hok' hnd;obtain⟨hcl,hK⟩:=ah6 hB hN7 hNq hlen hls;have hby:=iu (n:=N.length) hpm hpw hnd (fun o ho=>by
    obtain⟨j,hj⟩:=List.getElem?_of_mem ho;have:=tU (hok' j o hj);exact⟨this.2.2.1,this.2.2.2.1⟩)
   have hMC:M≤(byN N.length ls).length:=by omega
   rw[hby];have hR:=aew p q g h (rKs N.length M ls) (rZs N.length M ls) (some ⟨gK,0,none⟩) (some ⟨gZ,0,none⟩) ls.length ls.length m (fun e=>by have:=hK.kl;rw[e] at this;simp at this;omega) hK.nd hK.lt (by rw[hK.kl];omega) (by rw[hK.kl];omega) hK.zs (by rw[hK.kl,hK.zl]) hm1 hm3 hmq hp hq hp1;rw[hK.kl,hK.zl] at hR;clear hok' hdi hK hB' hby;generalize hKK:(byN N.length ls).flatMap kI=KK;generalize hZZ:(byN N.length ls).flatMap zI=ZZ
   by_cases he:wtE q ((rKs N.length M ls).map (· + 1)) ((rKs N.length M ls).map (· + 1)).length=0
   ·have hRx:Fn Tryz.prog 168 [vg p q g h,AX gK M ls.length,AX gZ M ls.length,.int .i64 (m:Int)] (fun w=>RdF iK (AX gK M ls.length) (rKs N.length M ls) w∧RdF zc (AX gZ M ls.length) (rZs N.length M ls) w)
      (Ex (fun x=>.tuple #[AX (x 0) m m,.int .i64 0]) (fun x=>[⟨x 0,24,(rsL p q ((rKs N.length M ls).map (· + 1)) (rZs N.length M ls) m).flatMap zc⟩]) (fun _=>True)):=by
     refine hR.weak (fun w hw=>hw) (fun v N hv=>?_)
     rcases hv with ⟨h,_⟩|⟨_,g,h,h'⟩
     ·exact absurd he h
     ·exact⟨fun _=>g,h,h',trivial⟩
    clear hR;have hpost:∀ (gW:Nat),RsP (vQ p q g h (F:Int) (m:Int) N ls) (oRY p q N ls M m) (.tuple #[AX gW m m,.int .i64 0]) [⟨gW,24,(rsL p q ((rKs N.length M ls).map (· + 1)) (rZs N.length M ls) m).flatMap zc⟩]:=fun gW=>RsP.ok hB (.inr ⟨he,gW,rfl,rfl⟩);generalize (rsL p q ((rKs N.length M ls).map (· + 1)) (rZs N.length M ls) m).flatMap zc=RS at *
    repeat (first|refine Tk ?_|intro _|exact Tz)
    refine WC.dF rfl Om ?_
    repeat (first|refine Tk ?_|intro _|exact Tz)
    refine WC.adraw 15 (k:=?_)
    iterate 10 (first|refine DQ.does (fun s _=>yv (h:=M) rfl rfl Om) Dp.const ?_|refine Da ?_|refine Dc ?_)
    refine DQ.callsE (fs:=fun _=>[]) (cs:=fun _=>[]) (R:=fun _ w=>RdF iK (AX gK M ls.length) (rKs N.length M ls) w∧RdF zc (AX gZ M ls.length) (rZs N.length M ls) w) (vf:=fun _ x=>.tuple #[AX (x 0) m m,.int .i64 0]) (Nf:=fun _ x=>[⟨x 0,24,RS⟩]) (S:=fun _ _=>True) (fun _=>[]) (fun _=>.nil)
     (fun _=>⟨fun _=>m,trivial⟩) (fun _ _=>hRx) (fun _=>rfl) (fun _=>rfl) (fun _=>by simp) (fun _ _ w hm=>⟨ag2 (r:=[]) (by rw[hKK,List.append_nil];exact Hs.sg hm) hMC,agO (r:=[]) (by rw[hZZ,List.append_nil];exact Hs.sg hm) hMC⟩) Dp.const Dp.const Dp.const ?_
    try dsimp only[List.map_cons,List.map_nil,List.cons_append,List.nil_append]
    iterate 4 (refine DQ.auto (k:=?_))
    refine DQ.anil (k:=?_);intro sx _;generalize sx 10 0=gW at *
    repeat (first|refine Tk ?_|intro _|exact Tz)
    exact WX.ret2 rfl Rv.t Rv.t [⟨gW,24,RS⟩] (Lle.c Lle.nil) (hpost gW)
   ·have hRx:Fn Tryz.prog 168 [vg p q g h,AX gK M ls.length,AX gZ M ls.length,.int .i64 (m:Int)] (fun w=>RdF iK (AX gK M ls.length) (rKs N.length M ls) w∧RdF zc (AX gZ M ls.length) (rZs N.length M ls) w) (Is (.tuple #[.slice none 0 0,.int .i64 7])):=by
     refine hR.weak (fun w hw=>hw) (fun v N hv=>?_)
     rcases hv with ⟨_,h,h'⟩|⟨h,_⟩
     ·exact h
     ·exact absurd h he
    clear hR;have hpost:RsP (vQ p q g h (F:Int) (m:Int) N ls) (oRY p q N ls M m) (.tuple #[.slice none 0 0,.int .i64 7]) []:=RsP.ok hB (.inl ⟨he,rfl,rfl⟩)
    repeat (first|refine Tk ?_|intro _|exact Tz)
    refine WC.dF rfl Om ?_
    repeat (first|refine Tk ?_|intro _|exact Tz)
    refine WC.adraw 15 (k:=?_)
    iterate 10 (first|refine DQ.does (fun s _=>yv (h:=M) rfl rfl Om) Dp.const ?_|refine Da ?_|refine Dc ?_)
    refine DQ.acallM (hc:=hRx) (hR:=fun w hm=>⟨ag2 (r:=[]) (by rw[hKK,List.append_nil];exact Hs.sg hm) hMC,agO (r:=[]) (by rw[hZZ,List.append_nil];exact Hs.sg hm) hMC⟩) (k:=?_)
    iterate 4 (refine DQ.auto (k:=?_))
    refine DQ.anil (k:=?_);intro sx _
    repeat (first|refine Tk ?_|intro _|exact Tz)
    exact WX.ret2 rfl Rv.t Rv.t [] Lle.nil hpost
end
end Sx
end
end Go.Proofs.YtiaibpcaloigkaaGreatDoor
