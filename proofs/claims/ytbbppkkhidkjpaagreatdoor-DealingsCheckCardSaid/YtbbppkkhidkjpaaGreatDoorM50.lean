/- Part 50 of the proof. -/
import Derived.Test.YtbbppkkhidkjpaaGreatDoorM45
set_option linter.unusedSimpArgs false
set_option linter.unusedVariables false
set_option maxHeartbeats 8000000
namespace Go.Proofs.YtbbppkkhidkjpaaGreatDoor
section
open Go Go.RowKit Go.BigFrame
namespace Sx
attribute [local irreducible] DQ DQS WC WI WO WX wd
section
variable (p q g h:Nat) (P:List Nat) (n cp:Nat) (pz:Option Addr)
theorem ac2 (i k:Nat) (hi:i≤7) (hk:k≤7) (h1:i - k<q) (h2:k - i<q) (hq2:2≤q) (hq:q<zb):Fn Tryz.prog 81 [yd p q g h,.int .i64 ((i:Int) - (k:Int))] Tr (Is (zf (dOf q i k))):=by
 by_cases hik:k≤i
 ·have:=lT p q g h (i - k) (by omega) hq;rw[show (((i - k:Nat)):Int)=(i:Int) - (k:Int) by omega] at this;exact this
 ·have:=acV p q g h (k - i) (by omega) (by omega) h2 hq;rw[jQ hq2 (by omega) h2,show (i:Int) - (k:Int) = -((k - i:Nat):Int) by omega];exact this
def dwT (j:Nat):List Nat:=(List.range j).map fun i=>dw q n P (i+1)
theorem acg {j:Nat}:(dwT q P n j).length=j:=by simp[dwT]
theorem cZ {j:Nat}:(dwT q P n j).flatMap zc++zc (dw q n P (j+1))=(dwT q P n (j+1)).flatMap zc:=by unfold dwT;rw[List.range_succ,List.map_append,List.flatMap_append];simp
set_option maxRecDepth 20000 in
theorem aak (hn1:1≤n) (hn7:n≤7) (hnq:n<q) (hq:q<zb) (hP:uE q P=true) (hPb:∀ a∈P,a<zb) (hPl:P.length<n) :
  Fn Tryz.prog 82 [yd p q g h,.int .i64 (n:Int),.slice pz P.length cp] (RdF zc (.slice pz P.length cp) P)
   (fun v N=>(nO q n=true∧∃ g' c' r,v=.tuple #[.slice (some ⟨g',0,none⟩) n c',.int .i64 0]∧N=[⟨g',24,(dwL q n P).flatMap zc++r⟩])∨(nO q n=false∧v=.tuple #[.slice none 0 0,.int .i64 7]∧N=[])):=by
 have h1q:1<q:=(uA hP).1;have h0q:0<q:=by omega
 have hAl:=jb p q g h P pz cp hPb (by omega) hq;rw[hP] at hAl;refine Fn.enter Tryz.func82 rfl rfl rfl ?_;intro w hw
 repeat (first|refine WO.does (yQ rfl rfl (by omega)) ?_|refine WO.does (yH rfl rfl (by omega)) ?_|refine WO.does (ss rfl rfl (by omega)) ?_|refine Ta ?_|(refine Tm ?_;intro _)|refine WO.acallR (hc:=hAl) (hR:=fun w1 hm=>hw.mod hm.mod) (k:=?_)|refine Tc ?_|exact Tz)
 rename_i gG
 refine WC.loopI (σ:=Nat × Nat × Nat × List Value) (fun s=>(s.1≤n∧∀ j,j<s.1→dwG q (j+1) (oth n (j+1))=true)∧(0<s.1→(((dwT q P n s.1).flatMap zc)++s.2.2.2).length=s.2.2.1*4∧s.2.2.1<9223372036854775808∧s.1≤s.2.2.1)) (fun s=>[(1,.int .i64 (n:Int)),(2,.slice pz P.length cp),(3,pt gG),(8,agV s.2.1 s.2.2.1 s.1 s.1),(9,.int .i64 ((s.1+1:Nat):Int))])
  (fun s=>⟨gG,26,zR p q g h⟩::naL s.2.1 ((dwT q P n s.1).flatMap zc) s.2.2.2 s.1) (fun s=>n - s.1) (0,0,0,[]) (fun s hi=>?_) ⟨⟨Nat.zero_le _,fun j hj=>absurd hj (Nat.not_lt_zero _)⟩,fun h=>absurd h (by decide)⟩
 obtain⟨i,g0,c0,r⟩:=s
 try dsimp only at hi ⊢
 obtain⟨⟨hi,hgd⟩,hr⟩:=hi
 by_cases hlt:i<n
 ·have hadd2:IntKind.i64.wrap (((i+1:Nat):Int)+1)=((i+1+1:Nat):Int):=zl (by omega) (by omega) (by omega);have hOf:=lT p q g h (i+1) (by omega) hq;have hxq:ofZ q ((i+1:Nat):Int)<q:=oI _ h0q;have hAt:=er p q g h P pz cp (ofZ q ((i+1:Nat):Int)) hPb (by omega) hq (Nat.lt_trans hxq hq) hP hxq;have hV0q:(y9 P (ofZ q ((i+1:Nat):Int))%q)<q:=Nat.mod_lt _ h0q;have hdw:(oth n (i+1)).foldl (dwF q (i+1)) (y9 P (ofZ q ((i+1:Nat):Int))%q)=dw q n P (i+1):=rfl;generalize (y9 P (ofZ q ((i+1:Nat):Int))%q)=v0 at hAt hV0q hdw
  repeat (first|refine Tw ?_|(refine Tm ?_;intro _)|exact Tz)
  refine WC.dT rfl (by omega) ?_
  repeat (first|refine Tw ?_|(refine Tm ?_;intro _)|exact Tz)
  refine WC.adrawF [8] 10 (k:=?_)
  iterate 4 (first|refine Da ?_|refine Df ?_)
  refine DQ.acallM (hc:=hOf) (hR:=fun _ _=>trivial) (k:=?_);refine DQ.acallM (hc:=hAt) (hR:=fun w1 hm=>hw.mod hm.mod) (k:=?_)
  repeat (first|refine Da ?_|refine Df ?_)
  refine DQ.anil (k:=?_);intro sx _
  repeat (first|refine Tw ?_|(refine Tm ?_;intro _)|exact Tz)
  generalize sx (0+1+1+1+1+1+1+1+1+1) 0=g10;clear sx hAt hOf
  refine WC.loopI (σ:=Nat) (fun k=>k≤n∧dwG q (i+1) (rZ k (i+1))=true) (fun k=>[(1,.int .i64 (n:Int)),(2,.slice pz P.length cp),(3,pt gG),(8,agV g0 c0 i i),(9,.int .i64 ((i+1:Nat):Int)),(10,pt g10),(12,.int .i64 ((k+1:Nat):Int))])
   (fun k=>⟨g10,24,zc ((rZ k (i+1)).foldl (dwF q (i+1)) v0)⟩::⟨gG,26,zR p q g h⟩::naL g0 ((dwT q P n i).flatMap zc) r i) (fun k=>n - k) 0 (fun k hk=>?_) ⟨Nat.zero_le _,rfl⟩ (hl:=by repeat (first|exact Lle.same|exact Lle.skip Lle.same|refine Lle.c ?_))
  try dsimp only at hk ⊢
  obtain⟨hk,hgk⟩:=hk
  by_cases hkn:k<n
  ·have hadd3:IntKind.i64.wrap (((k+1:Nat):Int)+1)=((k+1+1:Nat):Int):=zl (by omega) (by omega) (by omega);have hsub:IntKind.i64.wrap (((i+1:Nat):Int) - ((k+1:Nat):Int))=((i+1:Nat):Int) - ((k+1:Nat):Int):=i64_in (by omega) (by omega)
   repeat (first|refine Tw ?_|(refine Tm ?_;intro _)|exact Tz)
   refine WC.dT rfl (by omega) ?_
   repeat (first|refine Tw ?_|(refine Tm ?_;intro _)|exact Tz)
   by_cases hki:k+1=i+1
   ·have hos:rZ (k+1) (i+1)=rZ k (i+1):=by rw[uD,if_pos hki,List.append_nil]
    refine WC.dT rfl (by omega) ?_
    repeat (first|refine WO.does (zh rfl rfl hadd3) ?_|refine Ta ?_|(refine Tm ?_;intro _)|refine Tc ?_|exact Tz)
    rw[← hos] at hgk ⊢;exact WX.metI (k+1) (hl:=by repeat (first|exact Lle.same|exact Lle.skip Lle.same|refine Lle.c ?_)) (hs:=⟨⟨by omega,hgk⟩,by show n - (k+1)<n - k;omega⟩)
   ·refine WC.dF rfl (by omega) ?_;have hos:rZ (k+1) (i+1)=rZ k (i+1)++[k+1]:=by rw[uD,if_neg hki]
    have hcur:((rZ k (i+1)).foldl (dwF q (i+1)) v0)<q:=dX _ hV0q;have hnx:(rZ (k+1) (i+1)).foldl (dwF q (i+1)) v0=(rZ k (i+1)).foldl (dwF q (i+1)) v0*uf (dOf q (i+1) (k+1)) q%q:=by rw[hos];exact mB
    have hdl:dOf q (i+1) (k+1)<q:=aaB h0q;have hDf:=ac2 p q g h (i+1) (k+1) (by omega) (by omega) (by omega) (by omega) (by omega) hq;have hIv:=adq p q g h (dOf q (i+1) (k+1)) (Nat.lt_trans hdl hq) hq
    repeat (first|refine Tw ?_|(refine Tm ?_;intro _)|exact Tz)
    refine WC.adrawF [9] 11 (k:=?_)
    iterate 4 (first|refine Da ?_|refine Df ?_)
    refine DQ.does (fun s _=>zA rfl rfl hsub) Dp.const ?_;refine DQ.acallM (hc:=hDf) (hR:=fun _ _=>trivial) (k:=?_)
    by_cases hgcd:Nat.gcd (dOf q (i+1) (k+1)) q=1
    ·obtain⟨hv1,hv2⟩:=dH hgcd h1q hdl;have hgk':=j7 q (i:=i+1) hgk hgcd;rw[← hos] at hgk';rw[hv1,hv2,show okV true (uf (dOf q (i+1) (k+1)) q)=uf (dOf q (i+1) (k+1)) q from rfl] at hIv;have hil:=ke (a:=dOf q (i+1) (k+1)) (m:=q) h1q hdl;have hMu:=aaD p q g h ((rZ k (i+1)).foldl (dwF q (i+1)) v0) (uf (dOf q (i+1) (k+1)) q) (Nat.lt_trans hcur hq) (Nat.lt_trans hil hq) hq;rw[show zD ((rZ k (i+1)).foldl (dwF q (i+1)) v0) (uf (dOf q (i+1) (k+1)) q) q=true by unfold zD;rw[decide_eq_true h1q,decide_eq_true hcur,decide_eq_true hil];rfl] at hMu;rw[← hnx] at hMu;simp only[rE,okV,okE,if_true,if_pos] at hMu;generalize hnv:(rZ (k+1) (i+1)).foldl (dwF q (i+1)) v0=nv at hMu hnx;generalize uf (dOf q (i+1) (k+1)) q=iv at *;generalize dOf q (i+1) (k+1)=dd at *;generalize (rZ k (i+1)).foldl (dwF q (i+1)) v0=cur at *;refine DQ.acallM (hc:=hIv) (hR:=fun _ _=>trivial) (k:=?_)
     repeat (first|refine Da ?_|refine Df ?_)
     refine DQ.anil (k:=?_);intro sx _
     repeat (first|refine WO.does (vk rfl rfl rfl) ?_|refine WO.does (zh rfl rfl hadd3) ?_|refine Ta ?_|(refine Tm ?_;intro _)|refine WO.acall (hc:=hMu) (k:=?_)|refine Tc ?_|exact Tz)
     subst hnv;exact WX.metI (k+1) (hl:=by repeat (first|exact Lle.same|exact Lle.skip Lle.same|refine Lle.c ?_)) (hs:=⟨⟨by omega,hgk'⟩,by show n - (k+1)<n - k;omega⟩)
    ·obtain⟨hv1,hv2⟩:=eh hgcd h1q hdl;have hbad:=ia q n hlt (kM.2 ⟨by omega,by omega,hki⟩) hgcd;rw[hv1,hv2] at hIv;rw[show okV true (uf (dOf q (i+1) (k+1)) q)=uf (dOf q (i+1) (k+1)) q from rfl] at hIv;generalize uf (dOf q (i+1) (k+1)) q=iv at *;generalize dOf q (i+1) (k+1)=dd at *;generalize (rZ k (i+1)).foldl (dwF q (i+1)) v0=cur at *;refine DQ.acallM (hc:=hIv) (hR:=fun _ _=>trivial) (k:=?_)
     repeat (first|refine Da ?_|refine Df ?_)
     refine DQ.anil (k:=?_);intro sx _
     repeat (first|refine WO.does (vY rfl rfl (by decide)) ?_|refine Ta ?_|(refine Tm ?_;intro _)|refine Tc ?_|exact Tz)
     exact WX.ret2 rfl (by exact zt rfl) (by exact zt rfl) [] Lle.nil (.inr ⟨hbad,rfl,rfl⟩)
  ·obtain rfl:k=n:=by omega
   rw[show (rZ k (i+1)).foldl (dwF q (i+1)) v0=dw q k P (i+1) from hdw];rw[nx] at hgk;have hgd' : ∀ j,j<i+1→dwG q (j+1) (oth k (j+1))=true:=fun j hj=>by
    by_cases e:j=i
    ·subst e;exact hgk
    ·exact hgd j (by omega)
   have hst:=cZ q P k (j:=i);have hBl:((dwT q P k i).flatMap zc).length=i*4:=by rw[zG zy,acg]
   generalize hB2:(dwT q P k (i+1)).flatMap zc=B2 at *;generalize dw q k P (i+1)=V at *
   repeat (first|refine Tw ?_|(refine Tm ?_;intro _)|exact Tz)
   refine WC.dF rfl (by omega) ?_
   rcases i with _|i
   ·try dsimp only[agV,naL,List.nil_append]
    have hst' : zc V=B2:=by rw[← hst];rfl
    repeat (first|refine Ta ?_|(refine Tm ?_;intro _)|(refine WO.makes (ze (cs:=zc V) rfl (by decide) rfl) ?_;intro _)|refine Tc ?_|exact Tz)
    refine WO.appN (z:=zc 0) (m:=1) rfl rfl rfl (Rds.own (m:=4) Hs.here rfl) rfl (by decide) (by decide) (by decide) (by decide) (fun g1 c1 r1 a1 a2 a3=>?_);rw[hst'] at a1 ⊢
    repeat (first|refine WO.does (zh rfl rfl hadd2) ?_|refine Ta ?_|(refine Tm ?_;intro _)|refine Tc ?_|exact Tz)
    subst hB2;exact WX.metI (0+1,g1,c1,r1) (hs:=⟨⟨⟨by omega,hgd'⟩,fun _=>⟨a1,a2,a3⟩⟩,by show k - (0+1)<k - 0;omega⟩)
   ·obtain⟨r1,r2,r3⟩:=hr (by omega);generalize (dwT q P k (i+1)).flatMap zc=B1 at *
    try dsimp only[agV,naL,List.cons_append,List.nil_append]
    repeat (first|refine Ta ?_|(refine Tm ?_;intro _)|(refine WO.makes (ze (cs:=zc V) rfl (by decide) rfl) ?_;intro _)|refine Tc ?_|exact Tz)
    refine WO.appK (z:=zc 0) (m:=1) (l:=i+1+1) rfl rfl rfl (xs:=B1) (r:=r) (ys:=zc V) hBl r1 Pk.a (Rds.own (m:=4) Hs.here rfl) rfl rfl rfl (by omega) r2 (by omega) (by decide) (by decide) (fun g1 c1 r1 a1 a2 a3=>?_);rw[hst] at a1 ⊢
    repeat (first|refine WO.does (zh rfl rfl hadd2) ?_|refine Ta ?_|(refine Tm ?_;intro _)|refine Tc ?_|exact Tz)
    subst hB2;exact WX.metI (i+1+1,g1,c1,r1) (hs:=⟨⟨⟨by omega,hgd'⟩,fun _=>⟨a1,a2,a3⟩⟩,by show k - (i+1+1)<k - (i+1);omega⟩)
 ·have hi2:i=n:=by omega
  subst hi2;have hall:nO q i=true:=by
   unfold nO;rw[List.all_eq_true];exact fun j hj=>hgd j (List.mem_range.1 hj)
  rw[show dwT q P i i=dwL q i P from rfl];generalize (dwL q i P).flatMap zc=B at *;obtain⟨i,rfl⟩ : ∃ k,i=k+1:=⟨i - 1,by omega⟩
  try dsimp only[agV,naL,List.cons_append,List.nil_append]
  repeat (first|refine Tw ?_|(refine Tm ?_;intro _)|exact Tz)
  refine WC.dF rfl (by omega) ?_
  repeat (first|refine Tw ?_|(refine Tm ?_;intro _)|exact Tz)
  exact WX.ret2 rfl (by exact zt rfl) (by exact zt rfl) [⟨g0,24,B++r⟩] (Lle.c Lle.nil) (.inl ⟨hall,g0,c0,r,rfl,rfl⟩)
end
section
variable (p q g h:Nat) (V:List Nat) (n cV c bA oA:Nat)
def duK (k:Nat):Bool:=(List.range k).all fun j=>decide (prD p V (dwL q n (pkN q j))=ofZ q 1)
theorem aar {k:Nat}:duK p q V n (k+1)=(duK p q V n k && decide (prD p V (dwL q n (pkN q k))=ofZ q 1)):=by
 unfold duK;rw[List.range_succ,List.all_append];simp
set_option maxRecDepth 20000 in
theorem dQ (hVn:V.length=n) (hn1:1≤n) (hn7:n≤7) (hc1:1≤c) (hcn:c≤n) (hnq:n<q) (hq:q<zb) (hp:p<zb) (h1p:1<p) (hV:cF p V) :
  Fn Tryz.prog 39 [yd p q g h,.slice (some ⟨bA,oA,none⟩) n cV,.int .i64 (c:Int)] (fun w=>Seg w bA oA (V.flatMap zc)) (CkA (duB p q n c V)):=by
 have h0q:0<q:=by omega
 have hOf:Fn Tryz.prog 81 [yd p q g h,.int .i64 1] Tr (Is (zf (ofZ q 1))):=lT p q g h 1 (by omega) hq;have hol:ofZ q 1<q:=oI _ h0q;have holb:=Nat.lt_trans hol hq;refine Fn.enter Tryz.func39 rfl rfl rfl ?_;intro w hw
 repeat (first|refine WO.does (yQ rfl rfl (by omega)) ?_|refine WO.does (yH rfl rfl (by omega)) ?_|refine Ta ?_|(refine Tm ?_;intro _)|refine Tc ?_|exact Tz)
 rename_i gG;refine WC.loopI (σ:=Nat) (fun i=>i≤n) (fun i=>[(1,.slice (some ⟨bA,oA,none⟩) n cV),(2,.int .i64 (c:Int)),(3,pt gG),(8,.int .i64 (i:Int))]) (fun _=>[⟨gG,26,zR p q g h⟩]) (fun i=>n - i) 0 (fun i hi=>?_) (Nat.zero_le _)
 try dsimp only at hi ⊢
 by_cases hlt:i<n
 ·obtain⟨x,hx⟩ : ∃ y,V[i]?=some y:=⟨_,List.getElem?_eq_getElem (by omega)⟩;have hxm:=List.mem_of_getElem? hx;have hxb:=hV.lt x hxm;have hcA:cut (V.flatMap zc) (oA+i*4 - oA) 4=zc x:=by rw[Nat.add_sub_cancel_left];exact vd (f:=zc) (k:=4) (fun _=>rfl) hx
  have hadd2:IntKind.i64.wrap ((i:Int)+1)=((i+1:Nat):Int):=zl (by omega) (by omega) (by omega);have hM:=qs p q g h x hxb hp;rw[hV.may x hxm] at hM
  repeat (first|refine Tw ?_|(refine Tm ?_;intro _)|exact Tz)
  refine WC.dT rfl (by omega) ?_
  repeat (first|refine Tw ?_|(refine Tm ?_;intro _)|exact Tz)
  refine WC.adraw 7 (k:=?_)
  iterate 3 (first|refine Da ?_|refine Dc ?_)
  refine DQ.does (fun s _=>za (o':=oA+i*4) rfl rfl hlt rfl) Dp.const ?_;refine DQ.does (fun s _=>zk (vs:=zc x) (hs:=hw) (hle:=Nat.le_add_right _ _) (hc:=hcA)) Dp.const ?_;refine DQ.acallM (hc:=hM) (hR:=fun _ _=>trivial) (k:=?_)
  iterate 1 (first|refine Da ?_|refine Dc ?_)
  refine DQ.anil (k:=?_);intro sx _
  repeat (first|refine WO.does (zh rfl rfl hadd2) ?_|refine Ta ?_|(refine Tm ?_;intro _)|refine Tc ?_|exact Tz)
  exact WX.metI (i+1) (hs:=⟨by show i+1≤n;omega,by show n - (i+1)<n - i;omega⟩)
 ·have hi2:i=n:=by omega
  subst hi2;clear hi hlt;have hsub:IntKind.i64.wrap ((i:Int) - (c:Int))=((i - c:Nat):Int):=by rw[i64_in (by omega) (by omega)];omega
  repeat (first|refine Tw ?_|(refine Tm ?_;intro _)|exact Tz)
  refine WC.dF rfl (by omega) ?_
  repeat (first|refine Tw ?_|(refine Tm ?_;intro _)|exact Tz)
  refine WC.loopI (σ:=Nat) (fun k=>k≤i - c∧(0<k→nO q i=true)) (fun k=>[(1,.slice (some ⟨bA,oA,none⟩) i cV),(2,.int .i64 (c:Int)),(3,pt gG),(9,.bool (duK p q V i k)),(10,.int .i64 (k:Int))]) (fun _=>[⟨gG,26,zR p q g h⟩]) (fun k=>(i - c) - k) 0 (fun k hk=>?_) ⟨Nat.zero_le _,fun h=>absurd h (by decide)⟩
  try dsimp only at hk ⊢
  obtain⟨hk,hall⟩:=hk
  by_cases hlt:k<i - c
  ·have hadd2:IntKind.i64.wrap ((k:Int)+1)=((k+1:Nat):Int):=zl (by omega) (by omega) (by omega);have hks:=aar p q V i (k:=k);generalize hk2:duK p q V i (k+1)=bK2 at hks;generalize duK p q V i k=bK at *
   repeat (first|refine WO.does (zA rfl rfl hsub) ?_|refine Ta ?_|(refine Tm ?_;intro _)|refine Tc ?_|exact Tz)
   refine WC.dT rfl (by omega) ?_
   repeat (first|refine WO.does (zh rfl rfl hadd2) ?_|refine Ta ?_|(refine Tm ?_;intro _)|(refine WO.makes (zY (l:=k+1) (c:=k+1) rfl rfl (Nat.le_refl _) (by omega) (by omega)) ?_;intro _)|refine WO.acall (hc:=hOf) (k:=?_)|refine Tc ?_|exact Tz)
   rename_i gP;refine WO.stores (zB (vs:=zc (ofZ q 1)) (cs':=(pkN q k).flatMap zc) (hc:=ie) (hle:=eD)) ?_;have hW:=aak p q g h (pkN q k) i (k+1) (some ⟨gP,0,none⟩) hn1 hn7 hnq hq (jO (by omega) (by omega)) (fun a ha=>Nat.lt_trans (dE h0q a ha) hq) (by rw[qS];omega);rw[qS] at hW
   repeat (first|refine Tw ?_|(refine Tm ?_;intro _)|exact Tz)
   refine WO.calls (fs:=[]) (cs:=[]) hW rfl rfl rfl (fun w1 hm=>RdF.ownD (Hs.sg hm) qS) (fun u N hu=>?_)
   rcases hu with ⟨hal,gW,cW,rW,rfl,rfl⟩|⟨hal,rfl,rfl⟩
   ·try dsimp only[List.cons_append,List.nil_append]
    have hPd:=ko p q g h hp h1p V (dwL q i (pkN q k)) hV (fun v hv=>Nat.lt_trans (aat h0q v hv) hq) (by rw[mf,hVn]) (some ⟨bA,oA,none⟩) (some ⟨gW,0,none⟩) cV cW (by omega);rw[hVn] at hPd;have hRl:=Nat.lt_trans (im (zs:=V) (ws:=dwL q i (pkN q k)) h1p) hp;generalize prD p V (dwL q i (pkN q k))=R at hPd hRl hks;have hbk2:duK p q V i (k+1)=bK2:=hk2
    repeat (first|refine WO.does (vk rfl rfl rfl) ?_|refine Ta ?_|(refine Tm ?_;intro _)|refine Tc ?_|exact Tz)
    refine WO.acallR (hc:=hPd) (hR:=fun w1 hm=>⟨RdF.ownD (hw.mod hm.mod (by simp)) hVn,(by
     have hs:=RdF.seg (c:=cW) (Hs.seg (L:=⟨gW,24,(dwL q i (pkN q k)).flatMap zc++rW⟩::_) Hs.here hm);rw[mf] at hs;exact hs)⟩) (k:=?_)
    repeat (first|refine Tw ?_|(refine Tm ?_;intro _)|exact Tz)
    cases bK with
    | true =>
     rw[Bool.true_and] at hks;refine WC.adraw 7 (k:=?_)
     iterate 4 (first|refine Da ?_|refine Dc ?_)
     refine DQ.acallM (hc:=hOf) (hR:=fun _ _=>trivial) (k:=?_)
     iterate 2 (first|refine Da ?_|refine Dc ?_)
     refine DQ.anil (k:=?_);intro sx _;rw[← hks]
     repeat (first|refine WO.does (zh rfl rfl hadd2) ?_|refine Ta ?_|(refine Tm ?_;intro _)|refine Tc ?_|exact Tz)
     subst hk2;exact WX.metI (k+1) (hs:=⟨⟨by omega,fun _=>hal⟩,by show i - c - (k+1)<i - c - k;omega⟩)
    | false =>
     rw[Bool.false_and] at hks;subst hks;refine WC.adraw 7 (k:=?_)
     iterate 7 (first|refine Da ?_|refine Dc ?_)
     refine DQ.anil (k:=?_);intro sx _
     repeat (first|refine WO.does (zh rfl rfl hadd2) ?_|refine Ta ?_|(refine Tm ?_;intro _)|refine Tc ?_|exact Tz)
     rw[← hk2];exact WX.metI (k+1) (hs:=⟨⟨by omega,fun _=>hal⟩,by show i - c - (k+1)<i - c - k;omega⟩)
   ·try dsimp only[List.cons_append,List.nil_append]
    have hbad:duB p q i c V=false:=by
     unfold duB;rw[decide_eq_false (by omega),hal];rfl
    rw[hbad]
    repeat (first|refine WO.does (vY rfl rfl (by decide)) ?_|refine Ta ?_|(refine Tm ?_;intro _)|refine Tc ?_|exact Tz)
    exact WX.ret2 rfl (by exact zt rfl) (by exact zt rfl) [] Lle.nil ⟨7,rfl,fun h=>absurd h (by decide),rfl⟩
  ·have hkc:k=i - c:=by omega
   have hgood:duB p q i c V=duK p q V i k:=by
    unfold duB duK
    by_cases hic:i≤c
    ·rw[decide_eq_true hic,Bool.true_or,hkc,show i - c=0 by omega];rfl
    ·rw[hall (by omega),Bool.true_and,decide_eq_false hic,Bool.false_or,hkc]
   rw[hgood]
   repeat (first|refine WO.does (zA rfl rfl hsub) ?_|refine Ta ?_|(refine Tm ?_;intro _)|refine Tc ?_|exact Tz)
   refine WC.dF rfl (by omega) ?_
   repeat (first|refine Tw ?_|(refine Tm ?_;intro _)|exact Tz)
   exact WX.ret2 rfl (by exact zt rfl) (by exact zt rfl) [] Lle.nil ⟨0,rfl,fun _=>rfl,rfl⟩
end
end Sx
end
end Go.Proofs.YtbbppkkhidkjpaaGreatDoor
