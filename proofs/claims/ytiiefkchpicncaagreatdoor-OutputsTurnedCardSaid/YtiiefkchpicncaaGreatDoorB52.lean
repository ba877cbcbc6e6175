/- Part 52 of the proof. -/
import Derived.Test.YtiiefkchpicncaaGreatDoorB48
set_option linter.unusedSimpArgs false
set_option linter.unusedVariables false
set_option maxHeartbeats 8000000
namespace Go.Proofs.YtiiefkchpicncaaGreatDoor
section
open Go Go.RowKit Go.BigFrame
namespace Sx
def tnS (e2 d1:Nat) (T:List Od) (x:Od):List Od:=⟨e2,x.d,x.n,x.z,x.c,x.s⟩::(T++[⟨x.e,d1,x.n,x.z,x.c,x.s⟩])
def tnL (e2 d1:Nat) (T M:List Od):List Od:=M.foldl (tnS e2 d1) T
theorem abK {e2 d1:Nat} {T M:List Od} {i:Nat} {x:Od} (h:M[i]?=some x):tnL e2 d1 T (M.take (i+1))=tnS e2 d1 (tnL e2 d1 T (M.take i)) x:=by
 unfold tnL;rw[List.take_add_one,h,List.foldl_append];rfl
theorem aai {e2 d1:Nat} {x:Od}:∀ (M T:List Od),x∈tnL e2 d1 T M→x∈T∨∃ z∈M,x=⟨e2,z.d,z.n,z.z,z.c,z.s⟩∨x=⟨z.e,d1,z.n,z.z,z.c,z.s⟩
 | [],T,h=>.inl h
 | a::M,T,h=>by
  rcases aai M (tnS e2 d1 T a) h with h1|⟨z,hz,h1⟩
  ·rcases List.mem_cons.1 h1 with h2|h2
   ·exact .inr ⟨a,List.mem_cons_self ..,.inl h2⟩
   ·rcases List.mem_append.1 h2 with h3|h3
    ·exact .inl h3
    ·exact .inr ⟨a,List.mem_cons_self ..,.inr (List.mem_singleton.1 h3)⟩
  ·exact .inr ⟨z,List.mem_cons_of_mem _ hz,h1⟩
theorem aaq {e2 d1:Nat} {x:Od}:∀ (M T:List Od),x∈T→x∈tnL e2 d1 T M
 | [],_,h=>h
 | a::M,T,h=>aaq M (tnS e2 d1 T a) (List.mem_cons_of_mem _ (List.mem_append_left _ h))
theorem jr {e2 d1:Nat}:∀ (M T:List Od),(tnL e2 d1 T M).length=T.length+2*M.length
 | [],T=>rfl
 | a::M,T=>by
  show (tnL e2 d1 (tnS e2 d1 T a) M).length=_;rw[jr M];simp[tnS];omega
attribute [local irreducible] wd DQ WO WC WX ddH uc hOf
section
variable (p q g h0 a:Nat) (f sec:Int) (pk:Option Addr) (ck:Nat) (ks:List (Nat × Nat)) (ep:Nat) (pP:Option Addr) (cP:Nat) (PP:List Rr) (many:Nat) (pM:Option Addr) (cM:Nat) (M:List Od)
theorem ft (hp:p<zd) (hq:q<zd) (hg:g<zd) (hh0:h0<zd) (ha:a<zd) (hks:zT ks)
  (hf1 : -9223372036854775808≤f) (hf2:f≤9223372036854775807) (hs1 : -9223372036854775808≤sec) (hs2:sec≤9223372036854775807) (hep:ep<18446744073709551616) (hmany:many<256) (hPb:∀ x∈PP,∀ v∈x.xs,v<4294967296) (hMo:∀ x∈M,f9 x) :
  Fn Tryz.prog 6 [csV p q g h0 a f sec (.slice pk ks.length ck),.agg (mxC ep (.slice pP PP.length cP) many).toArray,.slice pM M.length cM] (fun w=>RdF yw (.slice pk ks.length ck) ks w∧RdE rrC (.slice pP PP.length cP) PP w∧(∀ x∈PP,RdE iJ (.slice x.pt x.xs.length x.c) x.xs w)∧RdE odC (.slice pM M.length cM) M w∧qM w) (Is (.bool true)):=by
 have hC:=ac8 p q g h0 a f sec pk ck ks hp hq hg hh0 ha hks hf1 hf2 hs1 hs2;have hL:=mu;refine Fn.enter Tryz.func6 rfl rfl rfl ?_;intro w hw;obtain⟨w1,w2,w3,w4,w5⟩:=hw
 repeat (first|refine Tw ?_|(refine Tm ?_;intro _)|exact Tz)
 rename_i gZ gX;refine WO.callsL (hc:=Fn.toL hC) (hp:=.nil) (hR:=fun wx hm=>w1.mod hm.mod) (k:=fun v N hv=>?_);cases hcb:oJ p q g a f sec ks with
 | false =>
  rw[hcb] at hv;obtain⟨cs,rfl,hl,h1⟩:=hv.2 rfl;refine WO.swap ?_;simp only[List.cons_append,List.nil_append]
  repeat (first|refine Ta ?_|(refine Tm ?_;intro _)|refine WO.acall (hc:=hL) (k:=?_)|refine WO.stores (zG (vs:=cs) (cs':=cs) (hl:=hl) (h1:=h1) (hc:=y4 (by rw[hl];rfl)) (hle:=by rw[hl];rfl)) ?_|refine Tc ?_|exact Tz)
  done
 | true =>
 rw[hcb] at hv;obtain⟨gN,cN,rfl,rfl,hNl,hcN⟩:=hv.1 rfl;have hcs:=lu hcb;simp only[List.cons_append,List.nil_append];obtain⟨hn1,hn7,hsq,hf0,hsc1,hfs,_,_⟩:=z6 hcs.set;obtain⟨F,rfl⟩ : ∃ F:Nat,f=(F:Int):=⟨f.toNat,by omega⟩;obtain⟨m,rfl⟩ : ∃ m:Nat,sec=(m:Int):=⟨sec.toNat,by omega⟩;have hNl2:=yA p g a ks;have hk7:=hcs.len;have hk0:0<ks.length:=by omega
 have hk0' : ¬ ((ks.length:Nat):Int)=0:=by omega
 rw[hNl2]
 by_cases hPl:10<PP.length
 ·repeat (first|refine WO.does (zJ rfl rfl hk0') ?_|refine WO.does (yx rfl rfl Om) ?_|refine Ta ?_|(refine Tm ?_;intro _)|refine WO.acall (hc:=hL) (k:=?_)|refine Tc ?_|exact Tz)
  done
 by_cases hMl:10<M.length
 ·repeat (first|refine WO.does (zJ rfl rfl hk0') ?_|refine WO.does (zZ rfl rfl Om) ?_|refine WO.does (yx rfl rfl Om) ?_|refine Ta ?_|(refine Tm ?_;intro _)|refine WO.acall (hc:=hL) (k:=?_)|refine Tc ?_|exact Tz)
  done
 have hMd:=iz p q g h0 a F m pk ck ks (some ⟨gN,0,none⟩) cN ep pP cP PP many hcs hp hq hg hh0 ha hks hep hmany hPb Om;have hmn:many%ks.length<ks.length:=Nat.mod_lt _ hk0
 repeat (first|refine WO.does (zJ rfl rfl hk0') ?_|refine WO.does (zZ rfl rfl Om) ?_|refine Ta ?_|(refine Tm ?_;intro _)|refine Tc ?_|exact Tz)
 rename_i gS;refine WO.calls (fs:=[]) (cs:=[]) hMd rfl rfl rfl (fun wx hm=>⟨w1.mod hm.mod,RdF.ownO (Hs.sg hm) hNl2,w2.mod hm.mod,fun x hx=>(w3 x hx).mod hm.mod⟩) (fun v N' hv=>?_);obtain⟨gl,cl,gp,cp,gh,ch,W,rfl,rfl,kW,r1,r2,r3⟩:=hv;obtain⟨n,hn⟩ : ∃ n,many%ks.length+1=n:=⟨_,rfl⟩;rw[hn] at kW r1 r2 r3 ⊢;have hnk:n≤ks.length:=by omega
 have hn0:0<n:=by omega
 have hNb:zT (csN p g a ks):=ki hp;have hhb:exN p g a<zd:=uR hp;have hWl:=kW.len;have hTl:(W.map Prod.fst).length=n:=by rw[List.length_map,hWl]
 have hHl:(W.map fun x=>ddH ep x.1.1).length=n:=by rw[List.length_map,hWl]
 obtain⟨lP,hlP⟩ : ∃ lP:Nat→List Nat,∀ i,lP i=dqL q (rrP PP i) (F+m):=⟨_,fun _=>rfl⟩;obtain⟨O,hO⟩:=mX (ep:=ep) hcs hp hq hep lP;obtain⟨k,hk⟩ : ∃ k,n*ks.length=k:=⟨_,rfl⟩;have hk70:k≤7*7:=by rw[← hk];exact Nat.mul_le_mul Om Om
 have hkp:0<k:=by rw[← hk];exact Nat.mul_pos hn0 hk0
 have hOp:=p8 p q g h0 a F m pk ck ks (some ⟨gN,0,none⟩) cN ep (some ⟨gl,0,none⟩) cl (W.map Prod.fst) 0 ks.length lP O hp hq hg hh0 ha hks hk7 hk0 Om Om hep Om Om (by rw[hTl];omega) (fun i y hy=>by
  obtain⟨hi,hyX⟩:=kW.get hy;rw[hyX,hlP];exact⟨tP Om,rfl⟩) (fun i hi t ht=>hO i Om t ht)
 rw[hTl,hk] at hOp;obtain⟨ls,hls⟩ : ∃ ls,qZ O ks.length 0 ks.length n=ls:=⟨_,rfl⟩;have hlsl:ls.length=k:=by rw[← hls,rj,hk]
 have hlsO:∀ x∈ls,f9 x:=fun x hx=>by
  rw[← hls] at hx;obtain⟨i,hi,t,ht,rfl⟩:=kO hx;exact (hO i Om _ (Nat.mod_lt _ hk0)).ok
 rw[hls] at hOp;have hFn:F+m≤ks.length:=by
  have:=mf (c:=F+m) hcs.set Om;rwa [hNl2] at this
 have hSec:∀ (ls' : List Od) (pO:Option Addr) (cO:Nat),ls'.length≤1000→(∀ x∈ls',f9 x)→(∀ x∈ls,x∈ls')→(∀ x∈ls',x∈ls∨x.e≠ep∨x.d=ks.length+1) →
   Fn Tryz.prog 19 [stV p q g (exN p g a) (F:Int) (m:Int) (.slice (some ⟨gN,0,none⟩) ks.length cN),.slice (some ⟨gh,0,none⟩) n ch,evV (.slice (some ⟨gl,0,none⟩) n cl) (.slice pO ls'.length cO) (.slice none 0 0)]
    (fun w=>RdF yw (.slice (some ⟨gN,0,none⟩) ks.length cN) (csN p g a ks) w∧EvR ep (some ⟨gl,0,none⟩) cl (W.map Prod.fst) pO cO ls' none 0 [] w∧RdF byC (.slice (some ⟨gh,0,none⟩) n ch) (W.map fun x=>ddH ep x.1.1) w∧qM w) (ah9 p q (exN p g a) m n lP true):=by
  intro ls' pO cO h1 h2 h3 h4;have hck:∀ i,i<n→∀ x∈ls',ckO p q g (exN p g a) (F:Int) (m:Int) (csN p g a ks) ep lP i x=true→x∈qZ O ks.length 0 ks.length n:=fun i hi x hx hc=>by
   rw[hls];obtain⟨e1,e2⟩:=iq hc
   rcases h4 x hx with h|h|h
   ·exact h
   ·exact absurd e1 h
   ·omega
  have:=qV p q g (exN p g a) F m (some ⟨gN,0,none⟩) cN (csN p g a ks) ep (some ⟨gl,0,none⟩) cl (W.map Prod.fst) pO cO ls' none 0 [] (some ⟨gh,0,none⟩) ch (W.map fun x=>ddH ep x.1.1) lP true hp hq hg hhb hNb Om hcs.pri hcs.set Om Om hep h1 h2 (by simp) (by simp) Om Om kW.hs
   (fun i y hy=>i5 hcs hp hq lP hlP kW hnk hO hck (by simp) hy)
   (fun i y hy _=>by
    unfold wB;rw[dU (s:=0) (many:=ks.length) hcs lP hlP kW hnk hO (fun x hx=>h3 x (by rw[← hls];exact hx)) hFn (Nat.le_refl _) hy,Bool.or_true])
  rw[hTl,hNl2] at this;exact this
 refine WO.swap ?_;simp only[List.cons_append,List.nil_append];have hRD:∀ {w:World},(∀ e∈mdB W,e.ok w)→∀ y∈W.map Prod.fst,eR w y.1 y.2:=fun h=>ig h
 repeat (first|refine Tw ?_|(refine Tm ?_;intro _)|exact Tz)
 refine WO.calls (fs:=[]) (cs:=[]) hOp rfl rfl rfl (fun wx hm=>⟨w1.mod hm.mod,RdF.ownO (Hs.sg hm) hNl2,RdF.ownO (Hs.sg hm) hTl,hRD (fun e he=>hm.ok e (by repeat (first|exact he|apply List.mem_cons_of_mem)))⟩) (fun v N' hv=>?_);obtain⟨go,co,rfl,rfl,ro⟩:=hv;obtain⟨ro1,ro2⟩:=ro hkp;rw[v6 hkp,vk hkp];refine WO.behind [_,_,_,_,_,_,_] ?_;simp only[List.cons_append,List.nil_append];have hS1:=hSec ls (some ⟨go,0,none⟩) co Om hlsO (fun x hx=>hx) (fun x hx=>.inl hx);rw[hlsl] at hS1
 repeat (first|refine Tw ?_|(refine Tm ?_;intro _)|exact Tz)
 refine WO.calls (fs:=[]) (cs:=[]) hS1 rfl rfl rfl (fun wx hm=>⟨RdF.ownO (Hs.sg hm) hNl2,⟨RdF.ownO (Hs.sg hm) rfl,hRD (fun e he=>hm.ok e (by repeat (first|exact he|exact List.mem_append_left _ he|apply List.mem_cons_of_mem|apply List.mem_append_right))),RdF.ownO (Hs.sg hm) rfl,RdF.nilV,by simp⟩,RdF.ownO (Hs.sg hm) hHl,w5.mod hm.mod (by simp)⟩) (fun v N' hv=>?_);obtain⟨gO,cO,Z,rfl,rfl,hZ,hZm⟩:=hv;refine WO.behind [_,_,_,_,_,_,_,_] ?_;simp only[agt,vk hn0,List.cons_append,List.nil_append];have hsubk:IntKind.i64.wrap ((k:Int) - 1)=(k:Int) - 1 - ((0:Nat):Int):=zo Om Om Om
 repeat (first|refine WO.does (zr rfl rfl hsubk) ?_|refine Ta ?_|(refine Tm ?_;intro _)|refine Tc ?_|exact Tz)
 refine WC.loopI (σ:=Nat × Nat × Nat) (fun s=>s.1≤k∧(0<s.1→s.1≤s.2.2∧s.2.2<9223372036854775808)) (fun s=>[(2,.slice pM M.length cM),(3,Sx.pt gZ),(4,Sx.pt gX),(7,Sx.pt gS),(9,.slice (some ⟨gl,0,none⟩) n cl),(11,.slice (some ⟨gh,0,none⟩) n ch),(13,.slice (some ⟨gO,0,none⟩) n n),(14,.int .i64 0),(12,.slice (some ⟨go,0,none⟩) k co),(15,agV s.2.1 s.2.2 s.1 s.1),(16,.int .i64 ((k:Int) - 1 - (s.1:Int)))])
  (fun s=>⟨gS,33,stC p q g (exN p g a) (F:Int) (m:Int) (.slice (some ⟨gN,0,none⟩) ks.length cN)⟩::⟨gN,96,(csN p g a ks).flatMap yw++mkz (cN - ks.length) (sP 0 0)⟩::⟨gX,67,mxC ep (.slice pP PP.length cP) many⟩::⟨gZ,29,csC p q g h0 a (F:Int) (m:Int) (.slice pk ks.length ck)⟩::⟨gl,47,(W.map Prod.fst).flatMap (ddC ep)++mkz (cl - n) dzC⟩::⟨gp,42,(W.map Prod.snd).flatMap nwC++mkz (cp - n) [.slice none 0 0]⟩::⟨gh,53,(W.map fun x=>ddH ep x.1.1).flatMap byC++mkz (ch - n) hzC⟩::⟨go,88,ls.flatMap odC++mkz (co - k) (opC 0 0 0 0 0 0)⟩::⟨gO,42,Z.flatMap nwC++mkz (cO - n) [.slice none 0 0]⟩::(rwL 88 s.2.1 ((ls.reverse.take s.1).flatMap odC) (mkz (s.2.2 - s.1) (opC 0 0 0 0 0 0)) s.1++(nwB Z++mdB W))) (fun s=>k - s.1) (0,0,0) (fun s hi=>?_) ⟨Nat.zero_le _,fun h=>absurd h (by decide)⟩ (hl:=by (iterate 9 refine Lle.c ?_);exact Lle.left')
 obtain⟨j,gt,ct⟩:=s;obtain⟨hj,hr⟩:=hi
 try dsimp only at hj hr ⊢
 by_cases hlt:j<k
 ·obtain⟨x,hx⟩ : ∃ x,ls[k - 1 - j]?=some x:=⟨_,List.getElem?_eq_getElem Om⟩;have hxr:ls.reverse[j]?=some x:=by rw[List.getElem?_reverse Om,hlsl];exact hx
  have hcx:cut (ls.flatMap odC++mkz (co - k) (opC 0 0 0 0 0 0)) (0+(k - 1 - j)*15) 15=odC x:=by rw[Nat.zero_add];exact uV (fun _ _=>rfl) hx
  have hidx:((k:Int) - 1 - (j:Int))=((k - 1 - j:Nat):Int):=by omega
  have hsub2:IntKind.i64.wrap (((k - 1 - j:Nat):Int) - 1)=(k:Int) - 1 - ((j+1:Nat):Int):=zo Om Om Om;have hB2:(ls.reverse.take j).flatMap odC++odC x=(ls.reverse.take (j+1)).flatMap odC:=by rw[List.take_add_one,hxr,List.flatMap_append];simp
  have hBl:((ls.reverse.take j).flatMap odC).length=j*15:=by rw[zy yB,List.length_take,List.length_reverse,hlsl,Nat.min_eq_left Om]
  rw[hidx]
  repeat (first|refine WO.does (tJ rfl rfl Om) ?_|refine WO.does (zb (o':=0+(k - 1 - j)*15) rfl rfl Om rfl) ?_|refine WO.does (zE (vs:=odC x) (hc:=hcx)) ?_|refine Ta ?_|(refine Tm ?_;intro _)|refine Tc ?_|exact Tz)
  refine WO.makes (zh (cs:=odC x) rfl (by decide) rfl) ?_;intro gb;refine WO.appR (z:=opC 0 0 0 0 0 0) (g:=gt) (c:=ct) (n:=j) (m:=1) (l:=j+1) (B:=(ls.reverse.take j).flatMap odC) (ys:=odC x) (L1:=[_,_,_,_,_,_,_,_,_,_]) (L2:=_) rfl rfl rfl rfl hBl hr (Rds.own (m:=15) Hs.here rfl) rfl rfl (by decide) rfl Om Om (by decide) (by decide) (fun g1 c1 a1 a2=>?_);rw[hB2];simp only[List.cons_append,List.nil_append]
  repeat (first|refine WO.does (zr rfl rfl hsub2) ?_|refine Ta ?_|(refine Tm ?_;intro _)|refine Tc ?_|exact Tz)
  exact WX.metI (j+1,g1,c1) (hl:=by (iterate 9 refine Lle.c ?_);simp only[rwL,List.cons_append,List.nil_append];repeat (first|exact Lle.left'|refine Lle.c ?_|refine Lle.skp ?_)) (hs:=⟨⟨by show j+1≤k;omega,fun _=>⟨a2,a1⟩⟩,by show k - (j+1)<k - j;omega⟩)
 have hj2:j=k:=by omega
 subst hj2;obtain⟨t1,t2⟩:=hr hkp;rw[show ls.reverse.take j=ls.reverse by rw[← hlsl,← List.length_reverse];exact List.take_length]
 repeat (first|refine WO.does (yo rfl rfl Om) ?_|refine Ta ?_|(refine Tm ?_;intro _)|refine Tc ?_|exact Tz)
 obtain⟨e2,he2⟩ : ∃ e2,(ep+1)%18446744073709551616=e2:=⟨_,rfl⟩;have hadd:=lT ep;rw[he2] at hadd;have hcvn:IntKind.u8.wrap (ks.length:Int)=(ks.length:Int):=u8_in Om Om;have haddn:IntKind.u8.wrap ((ks.length:Int)+1)=((ks.length+1:Nat):Int):=v8 Om Om Om
 refine WC.loopI (σ:=Nat × Nat × Nat) (fun s=>s.1≤M.length∧(j+2*s.1≤s.2.2∧s.2.2<9223372036854775808)) (fun s=>[(2,.slice pM M.length cM),(3,Sx.pt gZ),(4,Sx.pt gX),(7,Sx.pt gS),(9,.slice (some ⟨gl,0,none⟩) n cl),(11,.slice (some ⟨gh,0,none⟩) n ch),(13,.slice (some ⟨gO,0,none⟩) n n),(14,.int .i64 0),(15,agV s.2.1 s.2.2 (j+2*s.1) (j+2*s.1)),(17,.int .i64 (s.1:Int))])
  (fun s=>⟨gS,33,stC p q g (exN p g a) (F:Int) (m:Int) (.slice (some ⟨gN,0,none⟩) ks.length cN)⟩::⟨gN,96,(csN p g a ks).flatMap yw++mkz (cN - ks.length) (sP 0 0)⟩::⟨gX,67,mxC ep (.slice pP PP.length cP) many⟩::⟨gZ,29,csC p q g h0 a (F:Int) (m:Int) (.slice pk ks.length ck)⟩::⟨gl,47,(W.map Prod.fst).flatMap (ddC ep)++mkz (cl - n) dzC⟩::⟨gp,42,(W.map Prod.snd).flatMap nwC++mkz (cp - n) [.slice none 0 0]⟩::⟨gh,53,(W.map fun x=>ddH ep x.1.1).flatMap byC++mkz (ch - n) hzC⟩::⟨go,88,ls.flatMap odC++mkz (co - j) (opC 0 0 0 0 0 0)⟩::⟨gO,42,Z.flatMap nwC++mkz (cO - n) [.slice none 0 0]⟩::(rwL 88 s.2.1 ((tnL e2 (ks.length+1) ls.reverse (M.take s.1)).flatMap odC) (mkz (s.2.2 - (j+2*s.1)) (opC 0 0 0 0 0 0)) (j+2*s.1)++(nwB Z++mdB W))) (fun s=>M.length - s.1) (0,gt,ct) (fun s hi=>?_) ⟨Nat.zero_le _,t1,t2⟩ (hl:=by (iterate 9 refine Lle.c ?_);exact Lle.left')
 obtain⟨i,gt,ct⟩:=s;obtain⟨hi,hr1,hr2⟩:=hi
 try dsimp only at hi hr1 hr2 ⊢
 by_cases hlt:i<M.length
 ·obtain⟨x,hx⟩ : ∃ x,M[i]?=some x:=⟨_,List.getElem?_eq_getElem hlt⟩;obtain⟨bM,oM,rfl,_,hsM⟩:=id w4 |>.get hx
  have hcx:cut (M.flatMap odC) (oM+i*15 - oM) 15=odC x:=by rw[Nat.add_sub_cancel_left];exact zC yB hx
  have hadd2:IntKind.i64.wrap ((i:Int)+1)=((i+1:Nat):Int):=zo Om Om Om;have hTLl:(tnL e2 (ks.length+1) ls.reverse (M.take i)).length=j+2*i:=by rw[jr,List.length_reverse,hlsl,List.length_take,Nat.min_eq_left Om]
  have hT2:=abK (e2:=e2) (d1:=ks.length+1) (T:=ls.reverse) hx;generalize tnL e2 (ks.length+1) ls.reverse (M.take i)=TL at *;obtain⟨TL2,hT2e⟩ : ∃ TL2,tnL e2 (ks.length+1) ls.reverse (M.take (i+1))=TL2:=⟨_,rfl⟩;rw[hT2e] at hT2;have hBl:(TL.flatMap odC).length=(j+2*i)*15:=by rw[zy yB,hTLl]
  have hB2:odC (⟨e2,x.d,x.n,x.z,x.c,x.s⟩ : Od)++TL.flatMap odC++odC (⟨x.e,ks.length+1,x.n,x.z,x.c,x.s⟩ : Od)=TL2.flatMap odC:=by rw[hT2,tnS,List.flatMap_cons,List.flatMap_append];simp
  have hB3:(odC (⟨e2,x.d,x.n,x.z,x.c,x.s⟩ : Od)++TL.flatMap odC).length=(1+(j+2*i))*15:=by rw[List.length_append,hBl,yB];omega
  repeat (first|refine Tw ?_|(refine Tm ?_;intro _)|exact Tz)
  refine WC.dT rfl Om ?_
  repeat (first|refine WO.does (zb (o':=oM+i*15) rfl rfl hlt rfl) ?_|refine WO.does (zj (vs:=odC x) (hs:=hsM) (hle:=Nat.le_add_right _ _) (hc:=hcx)) ?_|refine WO.does (ze rfl rfl hadd) ?_|refine WO.does (zE (vs:=odC (⟨e2,x.d,x.n,x.z,x.c,x.s⟩ : Od)) (hc:=rfl)) ?_|refine Ta ?_|(refine Tm ?_;intro _)|refine Tc ?_|exact Tz)
  refine WO.makes (zh (cs:=odC (⟨e2,x.d,x.n,x.z,x.c,x.s⟩ : Od)) rfl (by decide) rfl) ?_;intro gb
  repeat (first|refine Tw ?_|(refine Tm ?_;intro _)|exact Tz)
  refine WO.appM (z:=opC 0 0 0 0 0 0) (g:=gb) (c:=1) (n:=1) (m:=j+2*i) (l:=1+(j+2*i)) (g2:=gt) (c2:=ct) (B:=odC (⟨e2,x.d,x.n,x.z,x.c,x.s⟩ : Od)) (ys:=TL.flatMap odC) (L1:=[]) (L2:=_) rfl rfl rfl rfl rfl (fun _=>⟨by decide,by decide⟩) (fun h=>Rds.ag (t:=88) (r:=mkz (ct - (j+2*i)) (opC 0 0 0 0 0 0)) h (fun e he=>(by repeat (first|exact he|exact List.mem_append_left _ he|apply List.mem_cons_of_mem|apply List.mem_append_right)))) hBl (gq (fun _=>rfl) TL) rfl Om Om (by decide) (by decide) (fun g1 c1 r1=>?_);obtain⟨r1a,r1b⟩:=r1 Om;rw[v6 (g:=g1) Om,vk (g:=g1) Om];simp only[List.cons_append,List.nil_append]
  repeat (first|refine WO.does (zb (o':=oM+i*15) rfl rfl hlt rfl) ?_|refine WO.does (zj (vs:=odC x) (hs:=hsM) (hle:=Nat.le_add_right _ _) (hc:=hcx)) ?_|refine WO.does (zB rfl hcvn) ?_|refine WO.does (ze rfl rfl haddn) ?_|refine WO.does (zE (vs:=odC (⟨x.e,ks.length+1,x.n,x.z,x.c,x.s⟩ : Od)) (hc:=rfl)) ?_|refine Ta ?_|(refine Tm ?_;intro _)|refine Tc ?_|exact Tz)
  refine WO.makes (zh (cs:=odC (⟨x.e,ks.length+1,x.n,x.z,x.c,x.s⟩ : Od)) rfl (by decide) rfl) ?_;intro gb2;refine WO.appKZ (z:=opC 0 0 0 0 0 0) (m:=1) (l:=j+2*(i+1)) rfl rfl rfl (xs:=odC (⟨e2,x.d,x.n,x.z,x.c,x.s⟩ : Od)++TL.flatMap odC) (ys:=odC (⟨x.e,ks.length+1,x.n,x.z,x.c,x.s⟩ : Od)) hB3 r1a Pk.a (Rds.own (m:=15) Hs.here rfl) rfl rfl Om Om r1b Om (by decide) (by decide) (fun g2 c2 a1 a2=>?_);rw[hB2];rw[← v6 (g:=g2) (c:=c2) (n:=j+2*(i+1)) Om]
  repeat (first|refine WO.does (ze rfl rfl hadd2) ?_|refine Ta ?_|(refine Tm ?_;intro _)|refine Tc ?_|exact Tz)
  exact WX.metI (i+1,g2,c2) (hl:=by (iterate 9 refine Lle.c ?_);rw[hT2e,vk Om];simp only[List.cons_append,List.nil_append];refine Lle.c ?_;refine Lle.skp (Lle.skp (Lle.skpL _ Lle.left'))) (hs:=⟨⟨by show i+1≤M.length;omega,a2,a1⟩,by show M.length - (i+1)<M.length - i;omega⟩)
 ·have hi2:i=M.length:=by omega
  subst hi2;rw[List.take_length];have hTLl:(tnL e2 (ks.length+1) ls.reverse M).length=j+2*M.length:=by rw[jr,List.length_reverse,hlsl]
  have hTLm:=fun x=>aai (e2:=e2) (d1:=ks.length+1) (x:=x) M ls.reverse;have hTLi:=fun x (h:x∈ls)=>aaq (e2:=e2) (d1:=ks.length+1) M ls.reverse (List.mem_reverse.2 h);generalize tnL e2 (ks.length+1) ls.reverse M=TL at *;have hl0:0<j+2*M.length:=by omega
  have hS2:=hSec TL (some ⟨gt,0,none⟩) ct Om (fun x hx=>by
   rcases hTLm x hx with h|⟨z,hz,rfl|rfl⟩
   ·exact hlsO x (List.mem_reverse.1 h)
   ·have k:=hMo z hz;exact⟨by show e2<_;omega,k.d,k.n,k.z,k.c,k.s⟩
   ·have k:=hMo z hz;exact⟨k.e,by show ks.length+1<256;omega,k.n,k.z,k.c,k.s⟩) hTLi (fun x hx=>by
   rcases hTLm x hx with h|⟨z,hz,rfl|rfl⟩
   ·exact .inl (List.mem_reverse.1 h)
   ·exact .inr (.inl (by show e2≠ep;omega))
   ·exact .inr (.inr rfl))
  rw[hTLl] at hS2;rw[v6 hl0,vk hl0];simp only[List.cons_append,List.nil_append]
  repeat (first|refine Tw ?_|(refine Tm ?_;intro _)|exact Tz)
  refine WC.dF rfl Om ?_
  repeat (first|refine Tw ?_|(refine Tm ?_;intro _)|exact Tz)
  refine WO.calls (fs:=[]) (cs:=[]) hS2 rfl rfl rfl (fun wx hm=>⟨RdF.ownO (Hs.sg hm) hNl2,⟨RdF.ownO (Hs.sg hm) rfl,hRD (fun e he=>hm.ok e (by repeat (first|exact he|exact List.mem_append_left _ he|apply List.mem_cons_of_mem|apply List.mem_append_right))),RdF.ownO (Hs.sg hm) rfl,RdF.nilV,by simp⟩,RdF.ownO (Hs.sg hm) hHl,w5.mod hm.mod (by simp)⟩) (fun v N' hv=>?_);obtain⟨gO2,cO2,Z2,rfl,rfl,hZ2,hZm2⟩:=hv;refine WO.behind [_,_,_,_,_,_,_,_,_,_] ?_;simp only[agt,vk hn0,List.cons_append,List.nil_append];have hZl:Z.length=n:=by have:=congrArg List.length hZ;simpa using this
  have hZl2:Z2.length=n:=by have:=congrArg List.length hZ2;simpa using this
  have hSame:=abe Z Z2 (some ⟨gO,0,none⟩) (some ⟨gO2,0,none⟩) n n n hZl (hZ.trans hZ2.symm) Om (fun z hz=>by
   have h1:z.xs∈Z.map Nw.xs:=List.mem_map.2 ⟨z,hz,rfl⟩;rw[hZ] at h1;obtain⟨i,_,h2⟩:=List.mem_map.1 h1;rw[← h2,jo];omega)
  repeat (first|refine WO.does (zL rfl rfl rfl) ?_|refine WO.acallR (hc:=hSame) (hR:=fun wx hm=>⟨⟨RdF.ownO (Hs.sg hm) hZl,fun z hz=>ad7 (hm.ok _ (by repeat (first|exact oW hz|exact List.mem_append_left _ (oW hz)|apply List.mem_cons_of_mem|apply List.mem_append_right)))⟩,⟨RdF.ownO (Hs.sg hm) hZl2,fun z hz=>ad7 (hm.ok _ (by repeat (first|exact oW hz|exact List.mem_append_left _ (oW hz)|apply List.mem_cons_of_mem|apply List.mem_append_right)))⟩⟩) (k:=?_)|refine Ta ?_|(refine Tm ?_;intro _)|refine WO.acall (hc:=hL) (k:=?_)|refine Tc ?_|exact Tz)
  done
end
end Sx
end
end Go.Proofs.YtiiefkchpicncaaGreatDoor
