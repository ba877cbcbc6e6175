/- Part 53 of the proof. -/
import Derived.Test.YteibfbjpkjkejaaGreatDoorM52
import Derived.Test.YteibfbjpkjkejaaGreatDoorCards
import Derived.Test.YteibfbjpkjkejaaGreatDoorTie
import Derived.ProofKit
import Derived.LaidMore
import Derived.Stop.Joined
import Derived.SevenTiedAt
import Derived.ChangeArms
import Derived.OpenShut
import Derived.DataReads
import Derived.WideShapes
set_option linter.unusedSimpArgs false
set_option linter.unusedVariables false
set_option maxHeartbeats 8000000
namespace Go.Proofs.YteibfbjpkjkejaaGreatDoor
section
open Go Go.RowKit Go.BigFrame
namespace Sx
attribute [local irreducible] DQ DQS WC WO WX sf wd
abbrev rfC (cs:List Value) (d:Nat) (ps:Value) (ep at' by' : Nat):List Value:=cs++[.int .u8 (d:Int),ps,.int .u64 (ep:Int),.int .u8 (at' : Int),.int .u8 (by' : Int)]
section
variable (p q g h0 a:Nat) (f sec:Int) (pk:Option Addr) (ck:Nat) (ks:List (Nat × Nat)) (ep d:Nat) (pP:Option Addr) (cP:Nat) (P:List Nat) (at' by' : Nat)
theorem bC (hp:p<zd) (hq:q<zd) (hg:g<zd) (hh0:h0<zd) (ha:a<zd) (hks:ym ks)
  (hf1 : -9223372036854775808≤f) (hf2:f≤9223372036854775807) (hs1 : -9223372036854775808≤sec) (hs2:sec≤9223372036854775807)
  (hP:∀ x∈P,x<4294967296) (hd:d<256) (hep:ep<18446744073709551616) (hat:at' < 256) (hby:by' < 256) :
  Fn Tryz.prog 3 [.agg (rfC (csC p q g h0 a f sec (.slice pk ks.length ck)) d (.slice pP P.length cP) ep at' by').toArray] (fun w=>RdF yv (.slice pk ks.length ck) ks w∧RdE aao (.slice pP P.length cP) P w∧qp w) (Is (.bool true)):=by
 have hC:=adL p q g h0 a f sec pk ck ks hp hq hg hh0 ha hks hf1 hf2 hs1 hs2;have hL:=ab0;refine Fn.enter Tryz.func3 rfl rfl rfl ?_;intro w hw;obtain⟨w1,w2,w3⟩:=hw
 repeat (first|refine WO.does (zE (vs:=csC p q g h0 a f sec (.slice pk ks.length ck)) (hc:=rfl)) ?_|refine WO.does (zE (vs:=dqC d (.slice pP P.length cP)) (hc:=rfl)) ?_|refine Ta ?_|(refine Tm ?_;intro _)|refine Tc ?_|exact Tz)
 rename_i gq gz gx;refine WO.callsL (hc:=Fn.toL hC) (hp:=.nil) (hR:=fun wx hm=>w1.mod hm.mod) (k:=fun v N hv=>?_);cases hcb:mc p q g a f sec ks with
 | false =>
  rw[hcb] at hv;obtain⟨cs,rfl,hl,h1⟩:=hv.2 rfl;refine WO.flip ?_;simp only[List.cons_append,List.nil_append]
  repeat (first|refine Ta ?_|(refine Tm ?_;intro _)|refine WO.acall (hc:=hL) (k:=?_)|refine WO.stores (zB (vs:=cs) (cs':=cs) (hl:=hl) (h1:=h1) (hc:=yu (by rw[hl];rfl)) (hle:=by rw[hl];rfl)) ?_|refine Tc ?_|exact Tz)
  done
 | true =>
 rw[hcb] at hv;obtain⟨gN,cN,rfl,rfl,hNl,hcN⟩:=hv.1 rfl;have hcs:=iY hcb;simp only[List.cons_append,List.nil_append]
 by_cases hb0:by'=0
 ·have hb0' : ((by' : Nat):Int)=0:=by omega
  repeat (first|refine WO.does (ye rfl rfl hb0') ?_|refine Ta ?_|(refine Tm ?_;intro _)|refine WO.acall (hc:=hL) (k:=?_)|refine Tc ?_|exact Tz)
  done
 obtain⟨hs1',hs7,hsq,hs0,hs2',hs5,_,_⟩:=vM hcs.set;obtain⟨F,rfl⟩ : ∃ F:Nat,f=(F:Int):=⟨f.toNat,by omega⟩;obtain⟨m,rfl⟩ : ∃ m:Nat,sec=(m:Int):=⟨sec.toNat,by omega⟩;have hNl2:=uj p g a ks;have hn:0<ks.length:=by omega
 have hq0:0<q:=by omega
 have hNew:=aef p q g (exN p g a) (F:Int) (m:Int) (some ⟨gN,0,none⟩) cN (csN p g a ks) ep hp hq hg (tw hp) (lJ hp) (by omega) hf1 hf2 hs1 hs2 hep hcs.set;have hDe:=aa1 p q g h0 a F m pk ck ks (some ⟨gN,0,none⟩) cN ep d pP cP P hcs hn hp hq hg hh0 ha hks hP hd hep;have hfit:=aaL (p:=p) (q:=q) (g:=g) (a:=a) (F:=F) (m:=m) (ks:=ks) (ep:=ep) (d:=d) (P:=P) hn (by omega);have hnum:=ab7 (p:=p) (q:=q) (g:=g) (a:=a) (F:=F) (m:=m) (ks:=ks) (ep:=ep) (d:=d) (P:=P) hp hq hq0;have hxd:=aey (p:=p) (q:=q) (g:=g) (a:=a) (F:=F) (m:=m) (ks:=ks) (ep:=ep) (d:=d) (P:=P) hn;have hxc:=adv (ep:=ep) (d:=d) (P:=P) hcs hn;have hxs:(dqX p q g a F m ks ep d P).s<q:=aa7 hq0;have hV7:=acb (p:=p) (q:=q) (g:=g) (a:=a) (F:=F) (m:=m) (ks:=ks) (ep:=ep) (d:=d) (P:=P);generalize dqX p q g a F m ks ep d P=x at *;have hNok:=lJ (p:=p) (g:=g) (a:=a) (ks:=ks) hp;generalize csN p g a ks=N at *;rw[hNl2] at hNew ⊢
 repeat (first|refine WO.does (yj rfl rfl (show ¬ ((by' : Nat):Int)=0 by omega)) ?_|refine Ta ?_|(refine Tm ?_;intro _)|refine Tc ?_|exact Tz)
 refine WO.callsL (hc:=Fn.toL hNew) (hp:=.nil) (hR:=fun wx hm=>RdF.ownO (Hs.sg hm) hNl2) (k:=fun v N' hv=>?_);obtain⟨k,rfl,rfl,hO⟩:=hv;refine WO.flip ?_;simp only[List.cons_append,List.nil_append]
 repeat (first|refine WO.does (zN rfl rfl rfl) ?_|refine Ta ?_|(refine Tm ?_;intro _)|refine Tc ?_|exact Tz)
 refine WO.acallX (hc:=hDe) (hR:=fun wx hm=>⟨w1.mod hm.mod,RdF.ownO (Hs.sg hm) hNl2,w2.mod hm.mod⟩) (k:=fun s _=>?_);generalize s 0=gV;generalize s 1=gY;generalize s 2=gP;simp only[ddL,List.cons_append,List.nil_append];have hvl0:((x.V.length:Nat):Int)≠0:=by omega
 have hT:=oG ep x.d x.c x.s (some ⟨gV,0,none⟩) (some ⟨gY,0,none⟩) (some ⟨gP,0,none⟩) ks.length ks.length ks.length x.V x.Y x.P hfit.vl hfit.yl hfit.pl;have hcv:IntKind.u64.wrap (by' : Int)=(by' : Int):=u64_in (by omega) (by omega);have hxs64:x.s<18446744073709551616:=by have:=hcs.q32;omega
 repeat (first|refine WO.does (yj rfl rfl hvl0) ?_|refine Ta ?_|(refine Tm ?_;intro _)|refine Tc ?_|exact Tz)
 refine WO.acallX (hc:=hT) (hR:=fun wx hm=>⟨RdF.ownO (Hs.sg hm) rfl,RdF.ownO (Hs.sg hm) rfl,RdF.ownO (Hs.sg hm) rfl⟩) (k:=fun s _=>?_);generalize s 0=gV1;generalize s 1=gY1;generalize s 2=gP1;simp only[List.cons_append,List.nil_append];have hI0:PlI k (fun _=>0) []:=PlI.nil k (by rw[hO.N];omega);have hK:abB k:=⟨by rw[hO.p];exact hp,by rw[hO.q];exact hq,by rw[hO.g];exact hg,by rw[hO.h];exact tw hp,by rw[hO.N];exact hNok,by rw[hO.f];exact hf1,by rw[hO.f];exact hf2,by rw[hO.sec];exact hs1,by rw[hO.sec];exact hs2⟩;have hd256:x.d<256:=by omega
 have hP1:=jd k (fun _=>0) (fun _=>0) [] ⟨x.d,x.V,x.Y,x.P,x.c,jB x.s by'⟩ (some ⟨gV1,0,none⟩) (some ⟨gY1,0,none⟩) (some ⟨gP1,0,none⟩) (x.V.length+1) (x.Y.length+1) (x.P.length+1) hK hI0 ⟨hfit.v,hfit.y,hfit.p,hfit.vl,hfit.yl,hfit.pl⟩ ⟨hnum.v,hnum.y,hnum.p,hnum.c,aaN hxs64 hby⟩ hd256 (by simp) (er:=10) (by decide) (by
  unfold ckP;rw[hO.p,hO.q,hO.g,hO.h,hO.f,hO.sec,hO.N,hO.ep];exact ac1 hxc (show ¬ jB x.s by' < q by have:=hcs.q32;unfold jB;omega))
 rw[hO.ep] at hP1
 repeat (first|refine WO.does (zM rfl hcv) ?_|refine WO.stores (zB (vs:=[.int .u64 (by' : Int)]) (cs':=dlC ep x.d (.slice (some ⟨gV1,0,none⟩) x.V.length (x.V.length+1)) (.slice (some ⟨gY1,0,none⟩) x.Y.length (x.Y.length+1)) (.slice (some ⟨gP1,0,none⟩) x.P.length (x.P.length+1)) x.c (jB x.s by')) (hc:=ce hxs64 hby)) ?_|refine Ta ?_|(refine Tm ?_;intro _)|refine Tc ?_|exact Tz)
 refine WO.acallR (hc:=hP1) (hR:=fun wx hm=>⟨fun e he=>hm.ok e (by repeat (first|exact he|apply List.mem_cons_of_mem)),⟨RdF.ownO (Hs.sg hm) rfl,RdF.ownO (Hs.sg hm) rfl,RdF.ownO (Hs.sg hm) rfl⟩,w3.mod hm.mod (by simp)⟩) (k:=?_);have hne2:(ep+1)%18446744073709551616≠k.ep:=by rw[hO.ep];omega
 generalize hep2:(ep+1)%18446744073709551616=ep2 at *;have hadd:IntKind.u64.wrap ((ep:Int)+1)=(ep2:Int):=by rw[dC,hep2]
 repeat (first|refine Tw ?_|(refine Tm ?_;intro _)|exact Tz)
 refine WO.acallX (hc:=hT) (hR:=fun wx hm=>⟨RdF.ownO (Hs.sg hm) rfl,RdF.ownO (Hs.sg hm) rfl,RdF.ownO (Hs.sg hm) rfl⟩) (k:=fun s _=>?_);generalize s 0=gV2;generalize s 1=gY2;generalize s 2=gP2;simp only[List.cons_append,List.nil_append];have hP2:=aat k (fun _=>0) (fun _=>0) [] x (some ⟨gV2,0,none⟩) (some ⟨gY2,0,none⟩) (some ⟨gP2,0,none⟩) (x.V.length+1) (x.Y.length+1) (x.P.length+1) ep2 hne2
 repeat (first|refine WO.does (zl rfl rfl hadd) ?_|refine Ta ?_|(refine Tm ?_;intro _)|refine WO.acallR (hc:=hP2) (hR:=fun wx hm=>fun e he=>hm.ok e (by repeat (first|exact he|apply List.mem_cons_of_mem))) (k:=?_)|refine Tc ?_|exact Tz)
 refine WO.acallX (hc:=hT) (hR:=fun wx hm=>⟨RdF.ownO (Hs.sg hm) rfl,RdF.ownO (Hs.sg hm) rfl,RdF.ownO (Hs.sg hm) rfl⟩) (k:=fun s _=>?_);generalize s 0=gV3;generalize s 1=gY3;generalize s 2=gP3;simp only[List.cons_append,List.nil_append];have hcv3:IntKind.i64.wrap (at' : Int)=(at' : Int):=i64_in (by omega) (by omega);have hrm:((at' : Int)).tmod (x.V.length:Int)=((at'%x.V.length:Nat):Int):=rfl;have hj:at'%x.V.length<x.V.length:=Nat.mod_lt _ (by omega);generalize at'%x.V.length=j at *
 repeat (first|refine Tw ?_|(refine Tm ?_;intro _)|exact Tz)
 refine WC.adraw 10 (k:=?_)
 iterate 10 (first|refine DQ.does (fun s _=>zM rfl hcv3) Dp.const ?_|refine DQ.does (fun s _=>vo rfl rfl hvl0 hrm) Dp.const ?_|refine DQ.does (fun s _=>zy (cs:=zb 0) rfl rfl rfl) Dp.const ?_|refine DQ.does (fun s _=>zc (o':=0+j*4) rfl rfl hj rfl) Dp.const ?_|refine Da ?_|refine Dc ?_)
 refine DQ.anil (k:=?_);intro sx _;have hP3:=jd k (fun _=>0) (fun _=>0) [] ⟨x.d,x.V.set j 0,x.Y,x.P,x.c,x.s⟩ (some ⟨gV3,0,none⟩) (some ⟨gY3,0,none⟩) (some ⟨gP3,0,none⟩) (x.V.length+1) (x.Y.length+1) (x.P.length+1) hK hI0 ⟨acz hfit.v,hfit.y,hfit.p,by rw[List.length_set];exact hfit.vl,hfit.yl,hfit.pl⟩ ⟨aeg hnum.v,hnum.y,hnum.p,hnum.c,hnum.s⟩ hd256 (by simp) (er:=4) (by decide) (by
  unfold ckP;rw[hO.p,hO.q,hO.g,hO.h,hO.f,hO.sec,hO.N,hO.ep];exact aaG hxc (List.mem_set hj 0) hq0)
 rw[hO.ep] at hP3;unfold acr at hP3;dsimp only at hP3;rw[List.length_set] at hP3;have hov:over (x.V.flatMap zb++zb 77) (0+j*4) (zb 0)=(x.V.set j 0).flatMap zb++zb 77:=by rw[Nat.zero_add];exact fP zO hj
 have hle:Nat.ble (0+j*4+4) (x.V.flatMap zb++zb 77).length=true:=by
  rw[Nat.ble_eq,List.length_append,zC zO];show 0+j*4+4≤x.V.length*4+4;omega
 have hA0:=adN k (fun _=>0) (fun _=>0) hI0
 repeat (first|refine WO.stores (zB (vs:=zb 0) (cs':=(x.V.set j 0).flatMap zb++zb 77) (hc:=hov) (hle:=hle)) ?_|refine WO.does (zN rfl rfl rfl) ?_|refine Ta ?_|(refine Tm ?_;intro _)|refine WO.acallR (hc:=hP3) (hR:=fun wx hm=>⟨fun e he=>hm.ok e (by repeat (first|exact he|apply List.mem_cons_of_mem)),⟨RdF.ownO (Hs.sg hm) rfl,RdF.ownO (Hs.sg hm) rfl,RdF.ownO (Hs.sg hm) rfl⟩,w3.mod hm.mod (by simp)⟩) (k:=?_)|refine WO.acallR (hc:=hA0) (hR:=fun wx hm=>fun e he=>hm.ok e (by repeat (first|exact he|apply List.mem_cons_of_mem))) (k:=?_)|refine Tc ?_|exact Tz)
 refine WO.mine (fun hmn=>?_);have h00:0 ∉ (sf k (fun _=>0) (fun _=>0) []).map Ent.g:=fun hm=>by
  obtain⟨e,he,h1⟩:=List.mem_map.1 hm;have h2:=(hmn e (by repeat (first|exact he|apply List.mem_cons_of_mem))).resolve_right (by simp);have h3:0<w.heap.size:=oy (w3 0 aa rfl);omega
 clear hmn;have hPO:=abj k (fun _=>0) (fun _=>0) [] x ks.length ks.length ks.length ⟨gV,gY,gP,0,0,0⟩ hK hI0 hfit hnum (by rw[hO.N];exact hxd) (by simp) (by
  unfold ckP;rw[hO.p,hO.q,hO.g,hO.h,hO.f,hO.sec,hO.N,hO.ep];exact hxc) (by simp) h00
 rw[hO.ep] at hPO;refine WO.callsT (hc:=hPO) (post':=fun v T'=>v=.tuple #[.bool true,.int .i64 0]∧∃ b lg' lc',T'=sf k lg' lc' ([]++[(x,b)])∧PlI k lc' ([]++[(x,b)])) (fun v N' hv=>by
  obtain⟨h1,b,lg',lc',rfl,h3⟩:=hv;exact⟨_,rfl,h1,b,lg',lc',rfl,h3⟩) (Tl.eq (by repeat (first|exact Tl.here|apply Tl.cons))) (.cons Pk.a (.cons Pk.a (.cons Pk.a .nil))) (fun wx hm=>w3.mod hm.mod (by simp)) (fun v T' hv=>?_)
 obtain⟨rfl,b,lg',lc',rfl,hI1⟩:=hv;simp only[List.cons_append,List.nil_append];have hA1:=adI k lg' lc' [(x,b)] hI1 (by simp)
 repeat (first|refine WO.does (ye rfl rfl rfl) ?_|refine Ta ?_|(refine Tm ?_;intro _)|refine WO.acall (hc:=hL) (k:=?_)|refine WO.acallX (hc:=hA1) (hR:=fun wx hm=>fun e he=>hm.ok e (by repeat (first|exact he|apply List.mem_cons_of_mem))) (k:=fun s _=>?_)|refine Tc ?_|exact Tz)
 done
end
end Sx
end
section
open Go Go.RowKit Go.BigFrame Go.WideShapes
namespace Sx
theorem yB (cs:List Value) (a b c:Nat):cut cs a b++cut cs (a+b) c=cut cs a (b+c):=by
 unfold cut;rw[List.take_add,List.drop_drop]
section
variable {H:Type} {enc:TypeId × Value→H} {P:Program} {w:World} {base:Nat} {spare:Nat→Bool} {held:Bool} {fuel:Nat} {cs:List Value} {x:DataW H × List MemPlace}
theorem uB {t:TypeId} {fs:Array Field} {m:Nat} (ht:P.underlying t=some (.struct fs)) (hm:P.cellsOf t=m) (h:DataW.trod enc P w base spare held fuel t cs=some x):cs.length=m:=by
 obtain⟨xs,n,_,_,hl,_⟩:=DataW.trod_struct ht h;rw[hl,hm]
theorem z7 {t:TypeId} {fs:Array Field} (ht:P.underlying t=some (.struct fs)) (h:DataW.trod enc P w base spare held fuel t cs=some x) {i off ty sz:Nat} {f:Field} (hf:fs[i]?=some f) (ho:f.offset=off) (hty:f.type=ty) (hs:P.cellsOf ty=sz) :
  ∃ n y,DataW.trod enc P w base spare held n ty (cut cs off sz)=some y:=by
 obtain⟨xs,n,_,_,_,hlen,hp⟩:=DataW.trod_struct ht h;have h1:=hp i f hf;subst ho hty hs;have hi:i<xs.length:=by
  rw[hlen]
  rcases Nat.lt_or_ge i fs.size with h2|h2
  ·exact h2
  ·rw[Array.getElem?_eq_none h2] at hf;cases hf
 rw[List.getElem?_eq_getElem hi] at h1;exact⟨n,_,h1⟩
theorem uC {t:TypeId} (ht:P.underlying t=some (.int .u64)) (h:DataW.trod enc P w base spare held fuel t cs=some x):∃ n:Nat,n<18446744073709551616∧cs=[.int .u64 (n:Int)]:=by
 obtain⟨n,rfl,_,hw⟩:=DataW.trod_int ht h;simp only[Lit.wf,IntKind.min,IntKind.max,IntKind.signed,IntKind.bits,Bool.and_eq_true,decide_eq_true_eq] at hw;have h1:(0:Int)≤n:=by simpa using hw.1
 have h2:n≤18446744073709551615:=by simpa using hw.2
 exact⟨n.toNat,by omega,by rw[Int.toNat_of_nonneg h1]⟩
theorem pB {t:TypeId} (ht:P.underlying t=some (.int .u8)) (h:DataW.trod enc P w base spare held fuel t cs=some x):∃ n:Nat,n<256∧cs=[.int .u8 (n:Int)]:=by
 obtain⟨n,rfl,_,hw⟩:=DataW.trod_int ht h;simp only[Lit.wf,IntKind.min,IntKind.max,IntKind.signed,IntKind.bits,Bool.and_eq_true,decide_eq_true_eq] at hw;have h1:(0:Int)≤n:=by simpa using hw.1
 have h2:n≤255:=by simpa using hw.2
 exact⟨n.toNat,by omega,by rw[Int.toNat_of_nonneg h1]⟩
theorem nT {t:TypeId} (ht:P.underlying t=some (.int .i64)) (h:DataW.trod enc P w base spare held fuel t cs=some x):∃ n:Int,-9223372036854775808≤n∧n≤9223372036854775807∧cs=[.int .i64 n]:=by
 obtain⟨n,rfl,_,hw⟩:=DataW.trod_int ht h;simp only[Lit.wf,IntKind.min,IntKind.max,IntKind.signed,IntKind.bits,Bool.and_eq_true,decide_eq_true_eq] at hw;exact⟨n,by simpa using hw.1,by simpa using hw.2,rfl⟩
theorem dj {t e:TypeId} (ht:P.underlying t=some (.array 4 e)) (he:P.underlying e=some (.int .u64)) (h4:P.cellsOf t=4) (h1:P.cellsOf e=1) (h:DataW.trod enc P w base spare held fuel t cs=some x):∃ n:Nat,n<zd∧cs=zb n:=by
 obtain⟨xs,m,_,_,hl,hlen,hp⟩:=DataW.trod_array ht h;rw[h4] at hl
 match cs,hl with
 | [c0,c1,c2,c3],_ =>
  have k:∀ (i:Nat),i<4→∃ y,DataW.trod enc P w base spare held m e (([c0,c1,c2,c3].drop (i*P.cellsOf e)).take (P.cellsOf e))=some y:=fun i hi=>by
   have h2:=hp i hi;rw[List.getElem?_eq_getElem (by omega)] at h2;exact⟨_,h2⟩
  rw[h1] at k;obtain⟨y0,k0⟩:=k 0 (by omega);obtain⟨y1,k1⟩:=k 1 (by omega);obtain⟨y2,k2⟩:=k 2 (by omega);obtain⟨y3,k3⟩:=k 3 (by omega);obtain⟨a0,b0,e0⟩:=uC he k0;obtain⟨a1,b1,e1⟩:=uC he k1;obtain⟨a2,b2,e2⟩:=uC he k2;obtain⟨a3,b3,e3⟩:=uC he k3;simp at e0 e1 e2 e3;subst e0 e1 e2 e3;obtain⟨w0,w1,w2,w3⟩:=ej b0 b1 b2 b3;exact⟨u5 a0 a1 a2 a3,lz b0 b1 b2 b3,by rw[zb,w0,w1,w2,w3]⟩
theorem Seg.app {b o:Nat} {A B:List Value} (hA:Seg w b o A) (hB:Seg w b (o+A.length) B):Seg w b o (A++B):=by
 intro i v hv
 rcases Nat.lt_or_ge i A.length with h|h
 ·rw[List.getElem?_append_left h] at hv;exact hA i v hv
 ·rw[List.getElem?_append_right h] at hv;have:=hB _ v hv;rwa [show o+A.length+(i - A.length)=o+i by omega] at this
theorem seg_of_cells {b o n:Nat} {l:List Value} (h:w.cells? base ⟨b,o,none⟩ n=some l):Seg w b o l:=by
 obtain⟨_,hl,hc⟩:=World.cells?_some h;intro i v hv;have hi:i<n:=by
  rw[← hl]
  rcases Nat.lt_or_ge i l.length with h1|h1
  ·exact h1
  ·rw[List.getElem?_eq_none h1] at hv;cases hv
 have:=hc i hi;rw[vU] at this;rw[this,hv]
theorem nf {α:Type} {f:α→List Value} {ok:α→Prop} {t e:TypeId} {k:Nat} (ht:P.underlying t=some (.slice e)) (hk:P.cellsOf e=k) (hf:∀ a,(f a).length=k)
  (hE:∀ (fuel:Nat) (cs:List Value) (x:DataW H × List MemPlace),DataW.trod enc P w base spare held fuel e cs=some x→∃ a,ok a∧cs=f a)
  (h:DataW.trod enc P w base spare held fuel t cs=some x) (hs:∀ a l c,cs=[.slice (some a) l c]→a.spot=none) :
  ∃ pt xs c,cs=[.slice pt xs.length c]∧(∀ a∈xs,ok a)∧RdF f (.slice pt xs.length c) xs w:=by
 rcases DataW.trod_slice ht h with ⟨rfl,_⟩|⟨a,len,cap,elems,rest,n,_,rfl,_,_,_,_,hlen,hel,_⟩
 ·exact⟨none,[],0,rfl,by simp,none,0,rfl,.inl ⟨rfl,rfl⟩⟩
 have ha:=hs a len cap rfl;obtain⟨b,o,sp⟩:=a;simp only at ha;subst ha;have key:∀ m,m≤len→∃ xs:List α,xs.length=m∧(∀ a∈xs,ok a)∧Seg w b o (xs.flatMap f):=by
  intro m
  induction m with
  | zero=>exact fun _=>⟨[],rfl,by simp,fun i v hv=>by simp at hv⟩
  | succ m ih =>
   intro hm;obtain⟨xs,h1,h2,h3⟩:=ih (by omega);have h4:=hel m (by omega);rw[List.getElem?_eq_getElem (by omega),hk,vU] at h4;cases h5:w.cells? base ⟨b,o+m*k,none⟩ k with
   | none=>rw[h5] at h4;cases h4
   | some l =>
    rw[h5] at h4;obtain⟨y,hy,rfl⟩:=hE n l _ h4;refine⟨xs++[y],by simp[h1],fun a ha=>?_,?_⟩
    ·rcases List.mem_append.1 ha with ha|ha
     ·exact h2 a ha
     ·obtain rfl:=List.mem_singleton.1 ha;exact hy
    ·rw[List.flatMap_append];refine h3.app ?_;rw[zC hf,h1];simpa using seg_of_cells h5
 obtain⟨xs,rfl,h2,h3⟩:=key len (Nat.le_refl _);exact⟨some ⟨b,o,none⟩,xs,cap,rfl,h2,_,cap,rfl,.inr ⟨b,o,rfl,h3⟩⟩
theorem ln {r:Reach} {b0:Nat} {t u e:TypeId} {cs:Array Value} {ts:List TypeId} {fs:Array Field} {i:Nat} (ht:P.underlying t=some (.struct fs)) (hts:P.cellTypes P.depth t=some ts) (hn:ts.length=P.cellsOf t)
  (hv:Value.okWide P w r b0 t (.agg cs)) (hu:ts[i]?=some u) (hue:P.underlying u=some (.slice e)):∀ a l c,cs[i]?=some (.slice (some a) l c)→a.spot=none:=by
 intro a l c hc;unfold Value.okWide at hv;rw[ht] at hv;obtain⟨cs',h1,h2,ts',h3,_,h4⟩:=hv;cases h1;rw[hts] at h3;cases h3;obtain⟨u',h5,h6⟩:=h4 i _ hc;have hi:i<ts.length:=by
  rcases Nat.lt_or_ge i ts.length with h|h
  ·exact h
  ·rw[List.getElem?_eq_none h] at hu;cases hu
 rw[Nat.mod_eq_of_lt hi,hu] at h5;cases h5;unfold Cell.okWide Cell.ok at h6;rw[hue] at h6;exact h6.2.2.2.1
end
section
variable {H:Type} {enc:TypeId × Value→H} {w:World} {base:Nat} {spare:Nat→Bool} {held:Bool} {fuel:Nat} {cs:List Value} {x:DataW H × List MemPlace}
theorem adt:Tryz.prog.cellsOf 22=1:=by kernel_rfl
theorem aeo:Tryz.prog.cellsOf 5=1:=by kernel_rfl
theorem acV:Tryz.prog.cellsOf 3=1:=by kernel_rfl
theorem nD:Tryz.prog.cellsOf 24=4:=by kernel_rfl
theorem eM:Tryz.prog.cellsOf 26=16:=by kernel_rfl
theorem mJ (h:DataW.trod enc Tryz.prog w base spare held fuel 24 cs=some x):∃ n:Nat,n<zd∧cs=zb n:=dj Tryz.underlying24 Tryz.underlying22 nD adt h
theorem aaz (h:DataW.trod enc Tryz.prog w base spare held fuel 26 cs=some x):∃ p q g u,p<zd∧q<zd∧g<zd∧u<zd∧cs=zP p q g u:=by
 have hl:=uB Tryz.underlying26 eM h;obtain⟨_,_,h0⟩:=z7 Tryz.underlying26 h (i:=0) (off:=0) (ty:=24) rfl rfl rfl nD;obtain⟨_,_,h1⟩:=z7 Tryz.underlying26 h (i:=1) (off:=4) (ty:=24) rfl rfl rfl nD;obtain⟨_,_,h2⟩:=z7 Tryz.underlying26 h (i:=2) (off:=8) (ty:=24) rfl rfl rfl nD;obtain⟨_,_,h3⟩:=z7 Tryz.underlying26 h (i:=3) (off:=12) (ty:=24) rfl rfl rfl nD;obtain⟨a,ha,e0⟩:=mJ h0;obtain⟨b,hb,e1⟩:=mJ h1;obtain⟨c,hc,e2⟩:=mJ h2;obtain⟨d,hd,e3⟩:=mJ h3;refine⟨a,b,c,d,ha,hb,hc,hd,?_⟩;rw[← zK hl,← yB cs 0 4 12,← yB cs (0+4) 4 8,← yB cs (0+4+4) 4 4,e0,e1,e2,e3];rfl
theorem acl {i:Nat} {v:Value} (h:cut cs i 1=[v]):cs[i]?=some v:=by
 have:=uO (j:=0) (v:=v) h rfl;rwa [Nat.add_zero] at this
theorem bT {o n i:Nat} {v:Value} (h:(cut cs o n)[i]?=some v):cs[o+i]?=some v:=by
 unfold cut at h;rw[List.getElem?_take] at h
 split at h
 ·rwa [List.getElem?_drop] at h
 ·cases h
theorem fA {P:Program} {t:TypeId} (ht:P.underlying t=some (.int .u32)) (h:DataW.trod enc P w base spare held fuel t cs=some x):∃ n:Nat,n<4294967296∧cs=[.int .u32 (n:Int)]:=by
 obtain⟨n,rfl,_,hw⟩:=DataW.trod_int ht h;simp only[Lit.wf,IntKind.min,IntKind.max,IntKind.signed,IntKind.bits,Bool.and_eq_true,decide_eq_true_eq] at hw;have h1:(0:Int)≤n:=by simpa using hw.1
 have h2:n≤4294967295:=by simpa using hw.2
 exact⟨n.toNat,by omega,by rw[Int.toNat_of_nonneg h1]⟩
theorem jN {P:Program} {α:Type} {f:α→List Value} {ok:α→Prop} {t e:TypeId} {k:Nat} (ht:P.underlying t=some (.slice e)) (hk:P.cellsOf e=k) (hk0:0<k) (hf:∀ a,(f a).length=k)
  (hE:∀ (fuel:Nat) (cs:List Value) (x:DataW H × List MemPlace),DataW.trod enc P w base spare held fuel e cs=some x→∃ a,ok a∧cs=f a)
  (h:DataW.trod enc P w base spare held fuel t cs=some x):∃ pt xs c,cs=[.slice pt (List.length xs) c]∧(∀ a∈xs,ok a)∧RdE f (.slice pt xs.length c) xs w:=by
 rcases DataW.trod_slice ht (id h) with ⟨rfl,_⟩|⟨a,len,cap,elems,rest,n,_,rfl,_,_,_,_,hlen,hel,_⟩
 ·exact⟨none,[],0,rfl,by simp,none,0,rfl,.inl rfl⟩
 rcases Nat.eq_zero_or_pos len with h0|h0
 ·subst h0;exact⟨some a,[],cap,rfl,by simp,some a,cap,rfl,.inl rfl⟩
 ·have ha:a.spot=none:=by
   have h4:=hel 0 h0;rw[List.getElem?_eq_getElem (by omega),hk] at h4;cases h5:w.cells? base (a.add (0*k)) k with
   | none=>rw[h5] at h4;cases h4
   | some l =>
    obtain⟨_,hl,hc⟩:=World.cells?_some h5;have h6:=hc 0 hk0;rw[List.getElem?_eq_getElem (by omega)] at h6;have h7:=World.cell?_spot h6;simpa [Addr.add] using h7
  obtain⟨pt,xs,c,e,h1,h2⟩:=nf ht hk hf hE h (fun a' l c e=>by cases e;exact ha);exact⟨pt,xs,c,e,h1,h2.toE⟩
theorem kQ:Tryz.prog.cellsOf 76=8:=by kernel_rfl
theorem db:Tryz.prog.cellsOf 27=1:=by kernel_rfl
theorem aaf:Tryz.prog.cellsOf 29=23:=by kernel_rfl
theorem adX:Tryz.prog.cellsOf 85=1:=by kernel_rfl
theorem adr:Tryz.prog.cellsOf 30=1:=by kernel_rfl
theorem aeG:Tryz.prog.cellsOf 32=2:=by kernel_rfl
theorem av (h:DataW.trod enc Tryz.prog w base spare held fuel 76 cs=some x):∃ k:Nat × Nat,(k.1<zd∧k.2<zd)∧cs=yv k:=by
 have hl:=uB Tryz.underlying76 kQ h;obtain⟨_,_,h0⟩:=z7 Tryz.underlying76 h (i:=0) (off:=0) (ty:=24) rfl rfl rfl nD;obtain⟨_,_,h1⟩:=z7 Tryz.underlying76 h (i:=1) (off:=4) (ty:=24) rfl rfl rfl nD;obtain⟨a,ha,e0⟩:=mJ h0;obtain⟨b,hb,e1⟩:=mJ h1;refine⟨(a,b),⟨ha,hb⟩,?_⟩;rw[← zK hl,← yB cs 0 4 4,e0,e1];rfl
theorem acP (h:DataW.trod enc Tryz.prog w base spare held fuel 29 cs=some x) (hs:∀ a l c,cs[22]?=some (.slice (some a) l c)→a.spot=none) :
  ∃ p q g u a f sec pt ks c,(p<zd∧q<zd∧g<zd∧u<zd∧a<zd)∧(-9223372036854775808≤f∧f≤9223372036854775807∧-9223372036854775808≤sec∧sec≤9223372036854775807)∧ym ks∧cs=csC p q g u a f sec (.slice pt (List.length ks) c)∧RdF yv (.slice pt ks.length c) ks w:=by
 have hl:=uB Tryz.underlying29 aaf h;obtain⟨_,_,h0⟩:=z7 Tryz.underlying29 h (i:=0) (off:=0) (ty:=26) rfl rfl rfl eM;obtain⟨_,_,h1⟩:=z7 Tryz.underlying29 h (i:=1) (off:=16) (ty:=24) rfl rfl rfl nD;obtain⟨_,_,h2⟩:=z7 Tryz.underlying29 h (i:=2) (off:=20) (ty:=3) rfl rfl rfl acV;obtain⟨_,_,h3⟩:=z7 Tryz.underlying29 h (i:=3) (off:=21) (ty:=3) rfl rfl rfl acV;obtain⟨_,_,h4⟩:=z7 Tryz.underlying29 h (i:=4) (off:=22) (ty:=27) rfl rfl rfl db;obtain⟨p,q,g,u,hp,hq,hg,hu,e0⟩:=aaz h0;obtain⟨a,ha,e1⟩:=mJ h1;obtain⟨f,hf1,hf2,e2⟩:=nT Tryz.underlying3 h2;obtain⟨sec,hs1,hs2,e3⟩:=nT Tryz.underlying3 h3;obtain⟨pt,ks,c,e4,hN,hR⟩:=nf (f:=yv) (ok:=fun k=>k.1<zd∧k.2<zd) Tryz.underlying27 kQ vT (fun _ _ _ h=>av h) h4 (fun a l c e=>hs a l c (acl e));refine⟨p,q,g,u,a,f,sec,pt,ks,c,⟨hp,hq,hg,hu,ha⟩,⟨hf1,hf2,hs1,hs2⟩,hN,?_,hR⟩;rw[← zK hl,← yB cs 0 16 7,← yB cs (0+16) 4 3,← yB cs (0+16+4) 1 2,← yB cs (0+16+4+1) 1 1,e0,e1,e2,e3,e4];rfl
theorem aeO (h:DataW.trod enc Tryz.prog w base spare held fuel 32 cs=some x) :
  ∃ d pt P c,d<256∧(∀ y∈P,y<4294967296)∧cs=dqC d (.slice pt (List.length P) c)∧RdE aao (.slice pt P.length c) P w:=by
 have hl:=uB Tryz.underlying32 aeG h;obtain⟨_,_,h0⟩:=z7 Tryz.underlying32 h (i:=0) (off:=0) (ty:=5) rfl rfl rfl aeo;obtain⟨_,_,h1⟩:=z7 Tryz.underlying32 h (i:=1) (off:=1) (ty:=30) rfl rfl rfl adr;obtain⟨d,hd,e0⟩:=pB Tryz.underlying5 h0;obtain⟨pt,P,c,e1,hP,hR⟩:=jN (f:=aao) (ok:=fun y=>y<4294967296) Tryz.underlying30 adX (by decide) (fun _=>rfl) (fun _ _ _ h=>fA Tryz.underlying85 h) h1;refine⟨d,pt,P,c,hd,hP,?_,hR⟩;rw[← zK hl,← yB cs 0 1 1,e0,e1];rfl
theorem k8:Tryz.prog.cellsOf 34=28:=by kernel_rfl
theorem af (h:DataW.trod enc Tryz.prog w base spare held fuel 34 cs=some x) (hs:∀ a l c,cs[22]?=some (.slice (some a) l c)→a.spot=none) :
  ∃ p q g u a f sec pt ks c d pP P cP ep at' by',(p<zd∧q<zd∧g<zd∧u<zd∧a<zd)∧(-9223372036854775808≤f∧f≤9223372036854775807∧-9223372036854775808≤sec∧sec≤9223372036854775807)∧ym ks∧(∀ y∈P,y<4294967296)∧d<256∧ep<18446744073709551616∧at' < 256∧by' < 256 ∧
   cs=rfC (csC p q g u a f sec (.slice pt (List.length ks) c)) d (.slice pP (List.length P) cP) ep at' by'∧RdF yv (.slice pt ks.length c) ks w∧RdE aao (.slice pP P.length cP) P w:=by
 have hl:=uB Tryz.underlying34 k8 h;obtain⟨_,_,h0⟩:=z7 Tryz.underlying34 h (i:=0) (off:=0) (ty:=29) rfl rfl rfl aaf;obtain⟨_,_,h1⟩:=z7 Tryz.underlying34 h (i:=1) (off:=23) (ty:=32) rfl rfl rfl aeG;obtain⟨_,_,h2⟩:=z7 Tryz.underlying34 h (i:=2) (off:=25) (ty:=22) rfl rfl rfl adt;obtain⟨_,_,h3⟩:=z7 Tryz.underlying34 h (i:=3) (off:=26) (ty:=5) rfl rfl rfl aeo;obtain⟨_,_,h4⟩:=z7 Tryz.underlying34 h (i:=4) (off:=27) (ty:=5) rfl rfl rfl aeo;obtain⟨p,q,g,u,a,f,sec,pt,ks,c,b1,b2,b3,e0,hR⟩:=acP h0 (fun a l c e=>hs a l c (by have:=bT e;rwa [Nat.zero_add] at this));obtain⟨d,pP,P,cP,hd,hP,e1,hR2⟩:=aeO h1;obtain⟨ep,hep,e2⟩:=uC Tryz.underlying22 h2;obtain⟨at',hat,e3⟩:=pB Tryz.underlying5 h3;obtain⟨by',hby,e4⟩:=pB Tryz.underlying5 h4;refine⟨p,q,g,u,a,f,sec,pt,ks,c,d,pP,P,cP,ep,at',by',b1,b2,b3,hP,hd,hep,hat,hby,?_,hR,hR2⟩;rw[← zK hl,← yB cs 0 23 5,← yB cs (0+23) 2 3,← yB cs (0+23+2) 1 2,← yB cs (0+23+2+1) 1 1,e0,e1,e2,e3,e4];rfl
end
end Sx
end
end Go.Proofs.YteibfbjpkjkejaaGreatDoor
namespace Go.Proofs.YteibfbjpkjkejaaGreatDoor.Ou
section
open Go Go.RowKit Go.BigFrame Go.ChangeShapes Go.WideShapes Go.ChangeAt Sx
theorem own:ownKnob Tryz.prog.godebug=none:=by kernel_rfl
theorem aeU:laidOutB Tryz.prog=true:=by kernel_rfl
theorem iz:Tryz.prog.readableRec 34=true:=by kernel_rfl
theorem nn:Tryz.prog.cellTypes Tryz.prog.depth 34=some (List.replicate 20 22++[3,3,27,5,30,22,5,5]):=by kernel_rfl
abbrev jx:List (String × DataW Unit):=[("errors.errorType",Rows.laid_errors_errorType)]
theorem et:Tryz.prog.globalNamed "errors.errorType"=some 0:=by kernel_rfl
theorem rt:(Tryz.prog.cutTypes.find? (·.1 == "internal/reflectlite.rtype")).map (·.2)=some 244:=by kernel_rfl
theorem acF:((List.range Tryz.prog.types.size).filter fun t=>Tryz.prog.rowNamed t [101,114,114,111,114])=[127]:=by kernel_rfl
theorem qj {W:World} (h:laidMetH Tryz.prog jx W):qp W:=by
 have h' : laidMet Tryz.prog [] W∧handlesMet Tryz.prog jx W:=h;obtain⟨name,u,ty,e1,e2,e3,e4,e5⟩:=h'.2 _ (List.mem_singleton.2 rfl);have en:name=[101,114,114,111,114]:=(Option.some.inj e1).symm;subst en;obtain rfl:=Option.some.inj (rt.symm.trans e2);have hm:ty∈(List.range Tryz.prog.types.size).filter fun t=>Tryz.prog.rowNamed t [101,114,114,111,114]:=List.mem_filter.2 ⟨List.mem_range.2 e3,e4⟩;rw[acF] at hm;obtain rfl:=List.mem_singleton.1 hm;have hh:typeHandle Tryz.prog 127=.pointer (some ⟨3,127,none⟩):=by kernel_rfl
 rw[hh] at e5;have hc:W.cell? ⟨0,0,none⟩=some aa:=by simpa using World.var?_cell et e5 0
 intro i v hv
 match i,hv with
 | 0,hv=>rw[show v=aa from (Option.some.inj hv).symm];exact hc
set_option maxRecDepth 100000 in
theorem cM (os:Os) (args:Array Value):laidMetH Tryz.prog jx ((World.doorLaid Tryz.prog 24 os).forCall (fun _ _=>0) ⟨#[],args,[]⟩).memory :=
 laidMetH_of_parts (laidMet_nil _ _) (by kernel_rfl)
end
end Go.Proofs.YteibfbjpkjkejaaGreatDoor.Ou
