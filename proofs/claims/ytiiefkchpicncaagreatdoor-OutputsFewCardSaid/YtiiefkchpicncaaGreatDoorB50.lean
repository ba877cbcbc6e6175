/- Part 50 of the proof. -/
import Derived.Test.YtiiefkchpicncaaGreatDoorB48
set_option linter.unusedSimpArgs false
set_option linter.unusedVariables false
set_option maxHeartbeats 8000000
namespace Go.Proofs.YtiiefkchpicncaaGreatDoor
section
open Go Go.RowKit Go.BigFrame
namespace Sx
attribute [local irreducible] DQ WC WO WX uc ddH hOf wd
section
variable (p q g h0 a:Nat) (f sec:Int) (pk:Option Addr) (ck:Nat) (ks:List (Nat × Nat)) (ep:Nat) (pP:Option Addr) (cP:Nat) (PP:List Rr) (many from' : Nat)
theorem aeM (hp:p<zd) (hq:q<zd) (hg:g<zd) (hh0:h0<zd) (ha:a<zd) (hks:zT ks)
  (hf1 : -9223372036854775808≤f) (hf2:f≤9223372036854775807) (hs1 : -9223372036854775808≤sec) (hs2:sec≤9223372036854775807) (hep:ep<18446744073709551616) (hmany:many<256) (hfrom:from' < 256) (hPb:∀ x∈PP,∀ v∈x.xs,v<4294967296) :
  Fn Tryz.prog 5 [csV p q g h0 a f sec (.slice pk ks.length ck),.agg (mxC ep (.slice pP PP.length cP) many).toArray,.int .u8 (from' : Int)] (fun w=>RdF yw (.slice pk ks.length ck) ks w∧RdE rrC (.slice pP PP.length cP) PP w∧(∀ x∈PP,RdE iJ (.slice x.pt x.xs.length x.c) x.xs w)∧qM w) (Is (.bool true)):=by
 have hC:=ac8 p q g h0 a f sec pk ck ks hp hq hg hh0 ha hks hf1 hf2 hs1 hs2;have hL:=mu;refine Fn.enter Tryz.func5 rfl rfl rfl ?_;intro w hw;obtain⟨w1,w2,w3,w4⟩:=hw
 repeat (first|refine Tw ?_|(refine Tm ?_;intro _)|exact Tz)
 rename_i gZ gX;refine WO.callsL (hc:=Fn.toL hC) (hp:=.nil) (hR:=fun wx hm=>w1.mod hm.mod) (k:=fun v N hv=>?_);cases hcb:oJ p q g a f sec ks with
 | false =>
  rw[hcb] at hv;obtain⟨cs,rfl,hl,h1⟩:=hv.2 rfl;refine WO.swap ?_;simp only[List.cons_append,List.nil_append]
  repeat (first|refine Ta ?_|(refine Tm ?_;intro _)|refine WO.acall (hc:=hL) (k:=?_)|refine WO.stores (zG (vs:=cs) (cs':=cs) (hl:=hl) (h1:=h1) (hc:=y4 (by rw[hl];rfl)) (hle:=by rw[hl];rfl)) ?_|refine Tc ?_|exact Tz)
  done
 | true =>
 rw[hcb] at hv;obtain⟨gN,cN,rfl,rfl,hNl,hcN⟩:=hv.1 rfl;have hcs:=lu hcb;simp only[List.cons_append,List.nil_append];obtain⟨hn1,hn7,hsq,hf0,hsc1,hfs,_,_⟩:=z6 hcs.set;obtain⟨F,rfl⟩ : ∃ F:Nat,f=(F:Int):=⟨f.toNat,by omega⟩;obtain⟨m,rfl⟩ : ∃ m:Nat,sec=(m:Int):=⟨sec.toNat,by omega⟩;have hNl2:=yA p g a ks;have hk7:=hcs.len;have hk0:0<ks.length:=by omega
 have hk0' : ¬ ((ks.length:Nat):Int)=0:=by omega
 rw[hNl2]
 by_cases hPl:10<PP.length
 ·repeat (first|refine WO.does (zJ rfl rfl hk0') ?_|refine WO.does (yx rfl rfl Om) ?_|refine Ta ?_|(refine Tm ?_;intro _)|refine WO.acall (hc:=hL) (k:=?_)|refine Tc ?_|exact Tz)
  done
 have hMd:=iz p q g h0 a F m pk ck ks (some ⟨gN,0,none⟩) cN ep pP cP PP many hcs hp hq hg hh0 ha hks hep hmany hPb Om;have hmn:many%ks.length<ks.length:=Nat.mod_lt _ hk0
 repeat (first|refine WO.does (zJ rfl rfl hk0') ?_|refine WO.does (zZ rfl rfl Om) ?_|refine Ta ?_|(refine Tm ?_;intro _)|refine Tc ?_|exact Tz)
 rename_i gS;refine WO.calls (fs:=[]) (cs:=[]) hMd rfl rfl rfl (fun wx hm=>⟨w1.mod hm.mod,RdF.ownO (Hs.sg hm) hNl2,w2.mod hm.mod,fun x hx=>(w3 x hx).mod hm.mod⟩) (fun v N' hv=>?_);obtain⟨gl,cl,gp,cp,gh,ch,W,rfl,rfl,kW,r1,r2,r3⟩:=hv;obtain⟨n,hn⟩ : ∃ n,many%ks.length+1=n:=⟨_,rfl⟩;rw[hn] at kW r1 r2 r3 ⊢;have hnk:n≤ks.length:=by omega
 have hn0:0<n:=by omega
 have hNb:zT (csN p g a ks):=ki hp;have hhb:exN p g a<zd:=uR hp;have hWl:=kW.len;have hTl:(W.map Prod.fst).length=n:=by rw[List.length_map,hWl]
 have hHl:(W.map fun x=>ddH ep x.1.1).length=n:=by rw[List.length_map,hWl]
 obtain⟨lP,hlP⟩ : ∃ lP:Nat→List Nat,∀ i,lP i=dqL q (rrP PP i) (F+m):=⟨_,fun _=>rfl⟩;obtain⟨O,hO⟩:=mX (ep:=ep) hcs hp hq hep lP;obtain⟨k,hk⟩ : ∃ k,n*(F+m - 1)=k:=⟨_,rfl⟩;have hk70:k≤7*5:=by rw[← hk];exact Nat.mul_le_mul Om Om
 have hOp:=p8 p q g h0 a F m pk ck ks (some ⟨gN,0,none⟩) cN ep (some ⟨gl,0,none⟩) cl (W.map Prod.fst) from' (F+m - 1) lP O hp hq hg hh0 ha hks hk7 hk0 Om Om hep hfrom Om (by rw[hTl];omega) (fun i y hy=>by
  obtain⟨hi,hyX⟩:=kW.get hy;rw[hyX,hlP];exact⟨tP Om,rfl⟩) (fun i hi t ht=>hO i Om t ht)
 rw[hTl,hk] at hOp;obtain⟨ls,hls⟩ : ∃ ls,qZ O ks.length from' (F+m - 1) n=ls:=⟨_,rfl⟩;have hlsl:ls.length=k:=by rw[← hls,rj,hk]
 have hlsO:∀ x∈ls,f9 x:=fun x hx=>by
  rw[← hls] at hx;obtain⟨i,hi,t,ht,rfl⟩:=kO hx;exact (hO i Om _ (Nat.mod_lt _ hk0)).ok
 rw[hls] at hOp;have hsub:IntKind.i64.wrap (((F+m:Nat):Int) - 1)=((F+m - 1:Nat):Int):=zo Om Om Om;have hFm:IntKind.i64.wrap ((F:Int)+(m:Int))=((F+m:Nat):Int):=zo Om Om Om;have hcvf:IntKind.i64.wrap (from' : Int)=(from' : Int):=i64_in Om Om
 have hlP' : ∀ (ls' : List Od) (SH:List Sw) (pO:Option Addr) (cO:Nat) (pS:Option Addr) (cS:Nat),ls'.length≤1000→(∀ x∈ls',x∈ls)→SH.length≤1000→(∀ x∈SH,(∀ a∈x.P,a<zd)∧x.P.length≤100)→(∀ x∈SH,x.e≠ep) →
   Fn Tryz.prog 19 [stV p q g (exN p g a) (F:Int) (m:Int) (.slice (some ⟨gN,0,none⟩) ks.length cN),.slice (some ⟨gh,0,none⟩) n ch,evV (.slice (some ⟨gl,0,none⟩) n cl) (.slice pO ls'.length cO) (.slice pS SH.length cS)]
    (fun w=>RdF yw (.slice (some ⟨gN,0,none⟩) ks.length cN) (csN p g a ks) w∧EvR ep (some ⟨gl,0,none⟩) cl (W.map Prod.fst) pO cO ls' pS cS SH w∧RdF byC (.slice (some ⟨gh,0,none⟩) n ch) (W.map fun x=>ddH ep x.1.1) w∧qM w) (Is (.tuple #[.slice none 0 0,.int .i64 7])):=by
  intro ls' SH pO cO pS cS h1 h2 h3 h4 h5;have hck:∀ i,i<n→∀ x∈ls',ckO p q g (exN p g a) (F:Int) (m:Int) (csN p g a ks) ep lP i x=true→x∈qZ O ks.length from' (F+m - 1) n:=fun i _ x hx _=>by rw[hls];exact h2 x hx
  have:=qV p q g (exN p g a) F m (some ⟨gN,0,none⟩) cN (csN p g a ks) ep (some ⟨gl,0,none⟩) cl (W.map Prod.fst) pO cO ls' pS cS SH (some ⟨gh,0,none⟩) ch (W.map fun x=>ddH ep x.1.1) lP false hp hq hg hhb hNb Om hcs.pri hcs.set Om Om hep h1 (fun x hx=>hlsO x (h2 x hx)) h3 h4 Om Om kW.hs
   (fun i y hy=>i5 hcs hp hq lP hlP kW hnk hO hck (fun x hx he=>absurd he (h5 x hx)) hy)
   (fun i y hy _=>by
    unfold wB;rw[abb hcs lP hlP kW hnk hO hck Om hy,Bool.or_false];exact List.any_eq_false.2 (fun x hx=>by unfold swB;rw[decide_eq_false (h5 x hx)];simp))
  rw[hTl,hNl2] at this;exact this
 refine WO.swap ?_;simp only[List.cons_append,List.nil_append];have hRD:∀ {w:World},(∀ e∈mdB W,e.ok w)→∀ y∈W.map Prod.fst,eR w y.1 y.2:=fun h=>ig h;have hRN:∀ {w:World},(∀ e∈mdB W,e.ok w)→∀ z∈W.map Prod.snd,RdF zc (.slice (some ⟨z.g,0,none⟩) z.xs.length z.c) z.xs w:=fun h=>aaW h
 repeat (first|refine WO.does (zB rfl hcvf) ?_|refine WO.does (ze rfl rfl hFm) ?_|refine WO.does (zr rfl rfl hsub) ?_|refine Ta ?_|(refine Tm ?_;intro _)|refine Tc ?_|exact Tz)
 refine WO.calls (fs:=[]) (cs:=[]) hOp rfl rfl rfl (fun wx hm=>⟨w1.mod hm.mod,RdF.ownO (Hs.sg hm) hNl2,RdF.ownO (Hs.sg hm) hTl,hRD (fun e he=>hm.ok e (by repeat (first|exact he|apply List.mem_cons_of_mem)))⟩) (fun v N' hv=>?_);obtain⟨go,co,rfl,rfl,ro⟩:=hv;refine WO.behind [_,_,_,_,_,_,_] ?_;simp only[List.cons_append,List.nil_append]
 repeat (first|refine Tw ?_|(refine Tm ?_;intro _)|exact Tz)
 have hBl:(ls.flatMap odC).length=k*15:=by rw[zy yB,hlsl]
 have hB1:(ls.flatMap odC).all Value.oneCell'=true:=gq (fun _=>rfl) ls;refine WC.mainT [4,6,7,8,9,10,11,12,13] [(0,stV p q g (exN p g a) (F:Int) (m:Int) (.slice (some ⟨gN,0,none⟩) ks.length cN)),(1,.slice (some ⟨gh,0,none⟩) n ch),(2,.slice (some ⟨gl,0,none⟩) n cl),(3,agV go co k k),(5,agV go co k k)] (by decide) (fun XX hXX=>?_);refine WT.with [⟨gS,33,stC p q g (exN p g a) (F:Int) (m:Int) (.slice (some ⟨gN,0,none⟩) ks.length cN)⟩] (by kernel_rfl) (Tlv.auto (Tlv.auto (Tlv.auto (Tlv.auto (Tlv.auto Tlv.nil))))) (fun hc hT=>?_)
 suffices key:XX [(3,Sx.pt gZ),(4,Sx.pt gX),(7,Sx.pt gS),(9,.slice (some ⟨gl,0,none⟩) n cl),(10,.slice (some ⟨gp,0,none⟩) n cp),(11,.slice (some ⟨gh,0,none⟩) n ch),(12,agV go co k k),(14,.int .i64 7)] (⟨gS,33,stC p q g (exN p g a) (F:Int) (m:Int) (.slice (some ⟨gN,0,none⟩) ks.length cN)⟩::⟨gN,96,(csN p g a ks).flatMap yw++mkz (cN - ks.length) (sP 0 0)⟩::⟨gX,67,mxC ep (.slice pP PP.length cP) many⟩::⟨gZ,29,csC p q g h0 a (F:Int) (m:Int) (.slice pk ks.length ck)⟩::⟨gl,47,(W.map Prod.fst).flatMap (ddC ep)++mkz (cl - n) dzC⟩::⟨gp,42,(W.map Prod.snd).flatMap nwC++mkz (cp - n) [.slice none 0 0]⟩::⟨gh,53,(W.map fun x=>ddH ep x.1.1).flatMap byC++mkz (ch - n) hzC⟩::(rwL 88 go (ls.flatMap odC) (mkz (co - k) (opC 0 0 0 0 0 0)) k++mdB W)) by
  refine WT.step [4] (by decide) hc hT ⟨⟨_,rfl,?_⟩,trivial⟩ (hl0:=by repeat (first|exact Lle.nil|refine Lle.c ?_));refine WO.appM (z:=opC 0 0 0 0 0 0) (g:=0) (c:=0) (n:=0) (m:=k) (l:=k) (g2:=go) (c2:=co) (B:=[]) (ys:=ls.flatMap odC) (L1:=[]) (L2:=_) rfl rfl rfl rfl rfl (fun h=>absurd h (by decide)) (fun h=>Rds.ag (t:=88) (r:=mkz (co - k) (opC 0 0 0 0 0 0)) h (fun e he=>(by repeat (first|exact he|exact List.mem_append_left _ he|apply List.mem_cons_of_mem|apply List.mem_append_right)))) hBl hB1 (Nat.zero_add k) Om Om (by decide) (by decide) (fun g4 c4 r4=>?_);refine WO.behind [_,_,_,_,_,_,_] ?_;simp only[List.cons_append,List.nil_append];refine WO.nil (WX.wt [(64,agV g4 c4 k k)] ?_);refine WT.step [6] (by decide) hc hT ⟨⟨_,rfl,?_⟩,trivial⟩ (hl0:=by repeat (first|exact Lle.nil|refine Lle.c ?_));refine WO.appM (z:=opC 0 0 0 0 0 0) (g:=g4) (c:=c4) (n:=k) (m:=k) (l:=k+k) (g2:=go) (c2:=co) (B:=ls.flatMap odC) (ys:=ls.flatMap odC) (L1:=[_,_,_,_,_,_,_]) (L2:=_) rfl rfl rfl rfl hBl r4 (fun h=>Rds.ag (t:=88) (r:=mkz (co - k) (opC 0 0 0 0 0 0)) h (fun e he=>(by repeat (first|exact he|exact List.mem_append_left _ he|apply List.mem_cons_of_mem|apply List.mem_append_right)))) hBl hB1 rfl Om Om (by decide) (by decide) (fun g6 c6 r6=>?_);refine WO.behind [_,_,_,_,_,_,_] ?_;rw[← List.flatMap_append];simp only[List.cons_append,List.nil_append];obtain⟨pO,cO,hpo⟩:=lM g6 c6 (k+k);rw[hpo];have hl2:(ls++ls).length=k+k:=by rw[List.length_append,hlsl]
  have hS1:=hlP' (ls++ls) [] pO cO none 0 Om (fun x hx=>by rcases List.mem_append.1 hx with h|h<;>exact h) (by simp) (by simp) (by simp);rw[hl2] at hS1;refine WO.nil (WX.wt [(66,.slice pO (k+k) cO)] ?_);refine WT.step [7] (by decide) hc hT ⟨⟨_,rfl,?_⟩,trivial⟩ (hl0:=by repeat (first|exact Lle.nil|refine Lle.c ?_));refine Tw ?_;refine WO.nil (WX.wt [(67,evV (.slice (some ⟨gl,0,none⟩) n cl) (.slice pO (k+k) cO) (.slice none 0 0))] ?_);refine WT.step [8] (by decide) hc hT ⟨⟨_,rfl,?_⟩,trivial⟩ (hl0:=by repeat (first|exact Lle.nil|refine Lle.c ?_));refine WO.acallR (hc:=hS1) (hR:=fun wx hm=>⟨RdF.ownO (Hs.sg hm) hNl2,⟨RdF.ownO (Hs.sg hm) rfl,hRD (fun e he=>hm.ok e (by repeat (first|exact he|exact List.mem_append_left _ he|apply List.mem_cons_of_mem|apply List.mem_append_right))),by
   have h:=RdF.ag (t:=88) (r:=mkz (c6 - (k+k)) (opC 0 0 0 0 0 0)) (g:=g6) (c:=c6) hl2 (w:=wx) (fun e he=>hm.ok e (by repeat (first|exact he|exact List.mem_append_left _ he|apply List.mem_cons_of_mem|apply List.mem_append_right)));rw[hpo] at h;rw[hl2];exact h,RdF.nilV,by simp⟩,RdF.ownO (Hs.sg hm) hHl,w4.mod hm.mod (by simp)⟩) (k:=?_)
  refine WO.nil (WX.wt [(68,(.tuple #[.slice none 0 0,.int .i64 7]))] ?_);refine WT.step [9] (by decide) hc hT ⟨⟨_,rfl,?_⟩,trivial⟩ (hl0:=by repeat (first|exact Lle.nil|refine Lle.c ?_));refine Tw ?_;refine WO.nil (WX.wt [(59,(.tuple #[.slice none 0 0,.int .i64 7]))] ?_);refine WT.step [10,11] (by decide) hc hT ⟨⟨_,rfl,?_⟩,⟨_,rfl,?_⟩,trivial⟩ (hl0:=by repeat (first|exact Lle.nil|refine Lle.c ?_))
  ·refine Tw ?_;refine WO.nil (WX.wt [(69,.slice none 0 0)] ?_);refine WT.step [11,12] (by decide) hc hT ⟨⟨_,rfl,?_⟩,⟨_,rfl,?_⟩,trivial⟩ (hl0:=by repeat (first|exact Lle.nil|refine Lle.c ?_))
   ·refine Tw ?_;refine WO.nil (WX.wt [(70,.int .i64 7)] ?_);refine WT.step [12] (by decide) hc hT ⟨⟨_,rfl,?_⟩,trivial⟩ (hl0:=by repeat (first|exact Lle.nil|refine Lle.c ?_));refine Tw ?_;refine WO.nil (WX.wt [(13,.slice none 0 0)] ?_);refine WT.step [13] (by decide) hc hT ⟨⟨_,rfl,?_⟩,trivial⟩ (hl0:=by repeat (first|exact Lle.nil|refine Lle.c ?_));refine Tw ?_;refine WO.nil (WX.wt [(14,.int .i64 7)] ?_);refine WT.fin [13] 14 hc rfl (by kernel_rfl) ?_;exact WX.weak ((hXX _ _).1 key) Kle.a (by (iterate 7 refine Lle.c ?_);exact Lle.skpL _ Lle.left')
   ·refine Tw ?_;refine WO.nil (WX.wt [(13,.slice none 0 0)] ?_);refine WT.step [11] (by decide) hc hT ⟨⟨_,rfl,?_⟩,trivial⟩ (hl0:=by repeat (first|exact Lle.nil|refine Lle.c ?_));refine Tw ?_;refine WO.nil (WX.wt [(70,.int .i64 7)] ?_);refine WT.step [13] (by decide) hc hT ⟨⟨_,rfl,?_⟩,trivial⟩ (hl0:=by repeat (first|exact Lle.nil|refine Lle.c ?_));refine Tw ?_;refine WO.nil (WX.wt [(14,.int .i64 7)] ?_);refine WT.fin [13] 14 hc rfl (by kernel_rfl) ?_;exact WX.weak ((hXX _ _).1 key) Kle.a (by (iterate 7 refine Lle.c ?_);exact Lle.skpL _ Lle.left')
  ·refine Tw ?_;refine WO.nil (WX.wt [(70,.int .i64 7)] ?_);refine WT.step [10] (by decide) hc hT ⟨⟨_,rfl,?_⟩,trivial⟩ (hl0:=by repeat (first|exact Lle.nil|refine Lle.c ?_));refine Tw ?_;refine WO.nil (WX.wt [(69,.slice none 0 0)] ?_);refine WT.step [12] (by decide) hc hT ⟨⟨_,rfl,?_⟩,trivial⟩ (hl0:=by repeat (first|exact Lle.nil|refine Lle.c ?_));refine Tw ?_;refine WO.nil (WX.wt [(13,.slice none 0 0)] ?_);refine WT.step [13] (by decide) hc hT ⟨⟨_,rfl,?_⟩,trivial⟩ (hl0:=by repeat (first|exact Lle.nil|refine Lle.c ?_));refine Tw ?_;refine WO.nil (WX.wt [(14,.int .i64 7)] ?_);refine WT.fin [13] 14 hc rfl (by kernel_rfl) ?_;exact WX.weak ((hXX _ _).1 key) Kle.a (by (iterate 7 refine Lle.c ?_);exact Lle.skpL _ Lle.left')
 refine (hXX _ _).2 ?_;clear hXX hc hT;obtain⟨x0,hx0⟩ : ∃ x0,W[0]?=some x0:=⟨_,List.getElem?_eq_getElem Om⟩;have hx0m:=List.mem_of_getElem? hx0;have hd0:((W.map Prod.fst).flatMap (ddC ep)++mkz (cl - n) dzC)[0*13+1]?=some (.int .u8 (x0.1.1.d:Int)):=yY (j:=1) (uV (f:=ddC ep) (k:=13) (i:=0) (x:=x0.1) (fun _ _=>rfl) (by rw[List.getElem?_map,hx0];rfl)) rfl;have hp0:((W.map Prod.snd).flatMap nwC++mkz (cp - n) [.slice none 0 0])[0*1]?=some (.slice (some ⟨x0.2.g,0,none⟩) x0.2.xs.length x0.2.c):=yY (j:=0) (uV (f:=nwC) (k:=1) (i:=0) (x:=x0.2) (fun _ _=>rfl) (by rw[List.getElem?_map,hx0];rfl)) rfl;have hxs:x0.2.xs=dqL q (rrP PP 0) (F+m):=by
  have h1:(W.map fun x=>x.2.xs)[0]?=some x0.2.xs:=by rw[List.getElem?_map,hx0];rfl
  rw[kW.p,List.getElem?_map,List.getElem?_range hn0] at h1;exact (Option.some.inj h1).symm
 obtain⟨ep2,hep2⟩ : ∃ ep2,(ep+1)%18446744073709551616=ep2:=⟨_,rfl⟩;have hadd:=lT ep;rw[hep2] at hadd;obtain⟨sw0,hsw0⟩ : ∃ sw0:Sw,sw0=⟨ep2,x0.1.1.d,some ⟨x0.2.g,0,none⟩,x0.2.xs,x0.2.c⟩:=⟨_,rfl⟩;have hswC:swC sw0=[.int .u64 (ep2:Int),.int .u8 (x0.1.1.d:Int),.slice (some ⟨x0.2.g,0,none⟩) x0.2.xs.length x0.2.c]:=by rw[hsw0];rfl
 have hswL:[sw0].flatMap swC++[]=[.int .u64 (ep2:Int),.int .u8 (x0.1.1.d:Int),.slice (some ⟨x0.2.g,0,none⟩) x0.2.xs.length x0.2.c]:=by rw[← hswC];simp
 obtain⟨pF,cF,hpf⟩:=lM go co k;have hS2:=fun (gb:Nat)=>hlP' ls [sw0] pF cF (some ⟨gb,0,none⟩) 1 Om (fun x hx=>hx) (by simp) (fun x hx=>by
  obtain rfl:=List.mem_singleton.1 hx;rw[hsw0];show (∀ a∈x0.2.xs,a<zd)∧x0.2.xs.length≤100;rw[hxs];exact⟨fun y hy=>Nat.lt_trans (au Om y hy) hq,by rw[u4];omega⟩) (fun x hx=>by
  obtain rfl:=List.mem_singleton.1 hx;rw[hsw0];show ep2≠ep;omega)
 rw[hlsl] at hS2;rw[hpf]
 repeat (first|refine Tw ?_|(refine Tm ?_;intro _)|exact Tz)
 refine WC.adraw 23 (k:=?_);refine DQ.does (fun s _=>zE (vs:=stC p q g (exN p g a) (F:Int) (m:Int) (.slice (some ⟨gN,0,none⟩) ks.length cN)) (hc:=rfl)) Dp.const ?_
 iterate 5 refine Dx ?_
 refine DQ.does (fun s _=>ze rfl rfl hadd) Dp.const ?_;refine Dx ?_;refine DQ.does (fun s _=>zb (i:=0) (o':=0+0*13) rfl rfl hn0 rfl) Dp.const ?_;refine Dx ?_;refine DQ.does (fun s _=>z7 (hc:=hd0)) Dp.const ?_;refine Dx ?_;refine DQ.does (fun s _=>zb (i:=0) (o':=0+0*1) rfl rfl hn0 rfl) Dp.const ?_;refine DQ.does (fun s _=>z7 (hc:=hp0)) Dp.const ?_;refine Dx ?_;refine DQ.makes (vf:=fun _ g=>.slice (some ⟨g,0,none⟩) 1 1) (t:=_) (cs:=fun _=>[.int .u64 (ep2:Int),.int .u8 (x0.1.1.d:Int),.slice (some ⟨x0.2.g,0,none⟩) x0.2.xs.length x0.2.c]) (fun s _=>zh rfl (by decide) rfl) Dp.const Dp.const ?_;refine Dx ?_;refine DQ.callE (v:=fun _=>.tuple #[.slice none 0 0,.int .i64 7]) (fun s=>[⟨s 15 0,_,[.int .u64 (ep2:Int),.int .u8 (x0.1.1.d:Int),.slice (some ⟨x0.2.g,0,none⟩) x0.2.xs.length x0.2.c]⟩]) (fun s=>.cons 15 Mh.a (by decide +kernel) .nil) (fun s _=>hS2 (s 15 0)) (fun s=>rfl) (fun s _ wx hm=>⟨RdF.ownO (Hs.sg hm) hNl2,⟨RdF.ownO (Hs.sg hm) rfl,hRD (fun e he=>hm.ok e (by repeat (first|exact he|exact List.mem_append_left _ he|apply List.mem_cons_of_mem|apply List.mem_append_right))),by
  have h:=RdF.ag (t:=88) (r:=mkz (co - k) (opC 0 0 0 0 0 0)) (g:=go) (c:=co) hlsl (w:=wx) (fun e he=>hm.ok e (by repeat (first|exact he|exact List.mem_append_left _ he|apply List.mem_cons_of_mem|apply List.mem_append_right)));rw[hpf] at h;rw[hlsl];exact h,RdF.ownO (f:=swC) (xs:=[sw0]) (r:=[]) (g:=s 15 0) (by rw[hswL];exact Hs.sg hm) rfl,fun x hx=>by
  obtain rfl:=List.mem_singleton.1 hx;rw[hsw0];exact hRN (fun e he=>hm.ok e (by repeat (first|exact he|exact List.mem_append_left _ he|apply List.mem_cons_of_mem|apply List.mem_append_right))) x0.2 (List.mem_map.2 ⟨x0,hx0m,rfl⟩)⟩,RdF.ownO (Hs.sg hm) hHl,w4.mod hm.mod (by simp)⟩) Dp.const ?_
 iterate 5 refine Dx ?_
 refine DQ.anil (k:=?_);intro sx _
 try simp only[List.map_cons,List.map_nil,List.cons_append,List.nil_append]
 have hS3:=fun pH=>kq p q g (exN p g a) F m (some ⟨gN,0,none⟩) cN (csN p g a ks) (some ⟨gl,0,none⟩) cl pH (ch - 1) (n - 1) n (.slice none 0 0) (.slice none 0 0) Om hp hq hg hhb hNb Om hcs.set Om Om;rw[hNl2] at hS3
 repeat (first|refine Tw ?_|(refine Tm ?_;intro _)|exact Tz)
 refine WC.adraw 11 (k:=?_);refine DQ.does (fun s _=>zE (vs:=stC p q g (exN p g a) (F:Int) (m:Int) (.slice (some ⟨gN,0,none⟩) ks.length cN)) (hc:=rfl)) Dp.const ?_;refine Dx ?_;refine DQ.does (fun s _=>uX (l:=1) rfl rfl Om) Dp.const ?_
 iterate 2 refine Dx ?_
 refine DQ.acallR (hc:=hS3 _) (hR:=fun wx hm=>RdF.ownO (Hs.sg hm) hNl2) (k:=?_)
 iterate 5 refine Dx ?_
 refine DQ.anil (k:=?_);intro sx _
 try simp only[List.map_cons,List.map_nil,List.cons_append,List.nil_append]
 repeat (first|refine WO.does (zL rfl rfl rfl) ?_|refine Ta ?_|(refine Tm ?_;intro _)|refine WO.acall (hc:=hL) (k:=?_)|refine Tc ?_|exact Tz)
 done
end
end Sx
end
end Go.Proofs.YtiiefkchpicncaaGreatDoor
