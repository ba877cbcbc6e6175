/- Part 49 of the proof. -/
import Derived.Test.YtbhblpnjhkddbaaGreatM48
import Derived.Test.YtbhblpnjhkddbaaGreatRows
import Derived.ProofKit
import Derived.ChangeArms
import Derived.OpenShut
import Derived.DataReads
import Derived.WideShapes
set_option linter.unusedSimpArgs false
set_option linter.unusedVariables false
set_option maxHeartbeats 8000000
namespace Go.Proofs.YtbhblpnjhkddbaaGreat
section
open Go Go.RowKit Go.BigFrame
namespace Sx
attribute [local irreducible] DQ DQS WC WO WX wd
theorem aci {xs:List Nat} {i o v:Nat} (h:xs[i]?=some v):(xs.flatMap u8C)[o+i*1 - o]?=some (.int .u8 (v:Int)):=by
 rw[Nat.add_sub_cancel_left,Nat.mul_one];have:=zA (f:=u8C) (k:=1) (fun _=>rfl) h;rw[Nat.mul_one] at this;have h2:=uP (j:=0) (v:=.int .u8 (v:Int)) this rfl;rwa [Nat.add_zero] at h2
theorem bn {t:Nat} {nd:List Nat} {k a:Nat} (h:nd[k]?=some a):t∈nd.take (k+1)↔(t∈nd.take k∨a=t):=by
 rw[List.take_add_one,h,List.mem_append];simp[eq_comm]
section
variable (p q g h:Nat) (F m:Nat) (pt:Option Addr) (c:Nat) (N:List (Nat × Nat)) (ep d x:Nat) (pz:Option Addr) (cz:Nat) (l:List Nat) (px:Option Addr) (cx:Nat) (X:List Nat) (pw:Option Addr) (cw:Nat) (W:List Nat)
theorem bI (hA:Fn Tryz.prog 9 [] Tr (Is (.bool true))) (hp:p<zc) (hq:q<zc) (hg:g<zc) (hh:h<zc) (hN:yp N) (hl:∀ a∈l,a<zc) (hX:∀ a∈X,a<zc) (hWb:∀ a∈W,a<256)
  (hd:d<256) (hx:x<zc) (hep:ep<18446744073709551616) (hF:F≤2) (hm:m≤3) (e1:vT p q g h (F:Int) (m:Int) N l d x X=true) (hW:W.length≤20) :
  Fn Tryz.prog 4 [stV p q g h (F:Int) (m:Int) (.slice pt N.length c),dtV ep d (.slice pz l.length cz) x (.slice px X.length cx),.slice pw W.length cw]
   (fun w=>RdF y9 (.slice pt N.length c) N w∧RdF zb (.slice pz l.length cz) l w∧RdF zb (.slice px X.length cx) X w∧RdF u8C (.slice pw W.length cw) W w) (Is (.bool true)):=by
 have hD':=(vR p q g h (F:Int) (m:Int) pt c N ep d x pz cz l px cx X hp hq hg hh hN hl hX (by omega) (by omega) (by omega) (by omega) hd hx hep).weak (post':=dtY p q g l N ep d x) (fun w hw=>hw) (fun v L hv=>hv.1 e1);unfold dtY at hD';obtain⟨eF,hXl,hNS,eD⟩:=vl e1;obtain⟨hP,hS,hlen,hall,hNl,hln⟩:=yZ eF;obtain⟨hn1,hn7,hnq,hf0,hsec1,hfs,hmg,hmh⟩:=yb hS;obtain⟨O,hO⟩:=uY e1 hp hq hep hd;have hq0:0<q:=by omega
 have hmq:m<q:=by
  have hS':=hS;unfold y6 at hS';simp only[Bool.and_eq_true,decide_eq_true_eq] at hS';omega
 have hSh:=tF p q g h (F:Int) pt c N pz cz l m hp hq hg hh hN hNl hl hln (by omega) (by omega) (by omega) (by unfold rX;rw[hS,hall,decide_eq_true hlen];rfl);have hSc:=nJ p q g h l pz cz m hl (by omega) hq hall (by omega) hm hmq;have hosl:(osL p q h l m).length=m:=by simp[osL]
 have hscl:(scL q l m).length=m:=by simp[scL]
 have hosg:∀ i,i<m→(osL p q h l m)[i]?=some (exN p h (scN q l i)):=fun i hi=>by unfold osL;rw[List.getElem?_map,List.getElem?_range hi];rfl
 have hscg:∀ i,i<m→(scL q l m)[i]?=some (scN q l i):=fun i hi=>by unfold scL;rw[List.getElem?_map,List.getElem?_range hi];rfl
 have hscb:∀ i,scN q l i<zc:=fun i=>Nat.lt_trans (Nat.mod_lt _ hq0) hq;have hdY:=qZ (q:=q) (l:=l) (N:=N) (n:=N.length) hp;have hYl:(dYs p q l N N.length).length=N.length:=by simp[dYs]
 have hcO:=fun (n s:Nat) (hn:n<256) (hs:s<zc) gY sC sS pV pP=>sG p q g h (F:Int) (m:Int) pt c N ep d n s (some ⟨gY,0,none⟩) N.length (dYs p q l N N.length) sC sS pV pP hp hq hg hh hN (by omega) (by omega) (by omega) (by omega) (by omega) hn hs hdY hep hd;have hRL:=fun (pl:Option Addr) (cl:Nat) (ls:List Od) (hn:ls.length≤100) (hl:ls.length<F+m)=>nv p q g h pt c N pl cl ls F m hp hq hg hh hN hNl hn hS (.inl hl);have hRO:=fun (gl cl:Nat) (ls:List Od) (k:OpL p q h N l ep d ls) (h1:F+m≤ls.length) (h2:ls.length≤N.length)=>ry p q g h F m pt c N l ep d ls (some ⟨gl,0,none⟩) cl hp hq hg hh hN hNl hP hS (by omega) k h1 h2;have hSN:=fun gA gB=>sy (osL p q h l m) (some ⟨gA,0,none⟩) (some ⟨gB,0,none⟩) m m (by rw[hosl];omega);have hOr:∀ t,t<N.length→opR p q g h (F:Int) (m:Int) N ep d (t+1) (X.getD t 0) (dYs p q l N N.length)=.tuple #[.agg (odC (O t)).toArray,.int .i64 0]:=fun t ht=>(hO t ht).r;have hOn:∀ t,t<N.length→(O t).n=t+1:=fun t ht=>(hO t ht).n;have hOL:∀ ts:List Nat,ts.Nodup→(∀ t∈ts,t<N.length)→OpL p q h N l ep d (ts.map O):=fun ts h1 h2=>aT hO h1 h2;have hPw:=fun i=>qj p q g h h (scN q l i) hh (hscb i) hp;have hPb:=fun i=>rc (p:=p) (a:=h) (n:=scN q l i) hp;generalize osL p q h l m=OS at *;generalize scL q l m=SC at *;generalize dSg p q g l N ep d x N.length=sg at *;generalize dVs p q g l N.length=Vs at *;generalize dYs p q l N N.length=Ys at *;generalize dPs p q g l N ep d x N.length=Ps at *;simp only[hYl,hosl] at hcO hSN;clear e1 eF eD hO hNS;refine Fn.enter Tryz.func4 rfl rfl rfl ?_;intro w hw;obtain⟨wN,wl,wX,wW⟩:=hw
 repeat (first|refine Tw ?_|(refine Tm ?_;intro _)|exact Tz)
 refine WO.acallX (hc:=hD') (hR:=fun w1 hm=>⟨wN.mod hm.mod,wl.mod hm.mod,wX.mod hm.mod⟩) (k:=fun yy hyy=>?_);clear hyy;generalize yy 0=gV;generalize yy 1=gY;generalize yy 2=gP;clear yy;simp only[List.cons_append,List.nil_append]
 repeat (first|refine WO.does (zD rfl rfl (by omega)) ?_|refine Ta ?_|(refine Tm ?_;intro _)|refine Tc ?_|exact Tz)
 refine WO.acallX (hc:=hSh) (hR:=fun w1 hm=>⟨wN.mod hm.mod,wl.mod hm.mod⟩) (k:=fun yy hyy=>?_);clear hyy;generalize yy 0=gT;clear yy;simp only[List.cons_append,List.nil_append]
 repeat (first|refine Tw ?_|(refine Tm ?_;intro _)|exact Tz)
 refine WO.acallX (hc:=hSc) (hR:=fun w1 hm=>wl.mod hm.mod) (k:=fun yy hyy=>?_);clear hyy;generalize yy 0=gC;clear yy;simp only[List.cons_append,List.nil_append]
 repeat (first|refine WO.does (zm rfl rfl rfl) ?_|refine Ta ?_|(refine Tm ?_;intro _)|refine Tc ?_|exact Tz)
 rename_i gS gZ gD
 refine WC.loopI (σ:=Nat) (fun i=>i≤m) (fun i=>[(2,.slice pw W.length cw),(3,Sx.pt gS),(4,Sx.pt gZ),(7,Sx.pt gD),(9,.slice (some ⟨gT,0,none⟩) m m),(11,.slice (some ⟨gC,0,none⟩) m m),(13,.int .i64 (i:Int))])
  (fun _=>[⟨gS,29,stC p q g h (F:Int) (m:Int) (.slice pt N.length c)⟩,⟨gZ,32,dtC ep d (.slice pz l.length cz) x (.slice px X.length cx)⟩,⟨gD,37,dlC ep d (.slice (some ⟨gV,0,none⟩) N.length N.length) (.slice (some ⟨gY,0,none⟩) N.length N.length) (.slice (some ⟨gP,0,none⟩) N.length N.length) sg.1 sg.2⟩,⟨gY,24,Ys.flatMap zb⟩,⟨gT,24,OS.flatMap zb⟩,⟨gC,24,SC.flatMap zb⟩]) (fun i=>m - i) 0 (fun i hi=>?_) (Nat.zero_le _)
 try dsimp only at hi ⊢
 by_cases hlt:i<m
 ·have hadd2:IntKind.i64.wrap ((i:Int)+1)=((i+1:Nat):Int):=zn (by omega) (by omega) (by omega);have c1:cut (OS.flatMap zb) (0+i*4) 4=zb (exN p h (scN q l i)):=by rw[Nat.zero_add];exact zA zu (hosg i hlt)
  have c2:cut (SC.flatMap zb) (0+i*4) 4=zb (scN q l i):=by rw[Nat.zero_add];exact zA zu (hscg i hlt)
  have hPi:=hPw i;have hb:=hPb i;generalize exN p h (scN q l i)=v at *;generalize scN q l i=si at *
  repeat (first|refine Tw ?_|(refine Tm ?_;intro _)|exact Tz)
  refine WC.dT rfl (by omega) ?_
  repeat (first|refine Tw ?_|(refine Tm ?_;intro _)|exact Tz)
  refine WC.adraw 15 (k:=?_)
  iterate 2 (first|refine Da ?_|refine Dc ?_)
  refine DQ.does (fun s _=>za (o':=0+i*4) rfl rfl hlt rfl) Dp.const ?_;refine DQ.does (fun s _=>zx (vs:=zb v) (hc:=c1)) Dp.const ?_
  iterate 7 (first|refine Da ?_|refine Dc ?_)
  refine DQ.does (fun s _=>za (o':=0+i*4) rfl rfl hlt rfl) Dp.const ?_;refine DQ.does (fun s _=>zx (vs:=zb si) (hc:=c2)) Dp.const ?_;refine DQ.acall (hc:=hPi) (k:=?_);refine DQ.does (fun s _=>uk rfl rfl hb hb (decide_eq_false (fun h=>h rfl))) Dp.const ?_;refine DQ.anil (k:=?_);intro sx _
  repeat (first|refine Ta ?_|(refine Tm ?_;intro _)|refine WO.does (zf rfl rfl hadd2) ?_|refine Tc ?_|exact Tz)
  exact WX.metI (i+1) (hs:=⟨by show i+1≤m;omega,by show m - (i+1)<m - i;omega⟩)
 ·have hi2:m=i:=by omega
  subst hi2;clear hlt hi hosg hscg hPw hPb hSc
  repeat (first|refine Tw ?_|(refine Tm ?_;intro _)|exact Tz)
  refine WC.dF rfl (by omega) ?_
  repeat (first|refine Tw ?_|(refine Tm ?_;intro _)|exact Tz)
  refine WC.loopI (σ:=Nat × Nat × List Nat × Nat × Nat) (fun s=>s.1≤W.length∧s.2.2.1=ndL N.length W s.1∧s.2.2.1.length=s.2.1∧(0<s.2.1→s.2.2.2.2<9223372036854775808∧s.2.1≤s.2.2.2.2))
   (fun s=>[(2,.slice pw W.length cw),(3,Sx.pt gS),(4,Sx.pt gZ),(7,Sx.pt gD),(9,.slice (some ⟨gT,0,none⟩) m m),(14,agV s.2.2.2.1 s.2.2.2.2 s.2.1 s.2.1),(15,.int .i64 (s.1:Int))])
   (fun s=>⟨gS,29,stC p q g h (F:Int) (m:Int) (.slice pt N.length c)⟩::⟨gZ,32,dtC ep d (.slice pz l.length cz) x (.slice px X.length cx)⟩::⟨gD,37,dlC ep d (.slice (some ⟨gV,0,none⟩) N.length N.length) (.slice (some ⟨gY,0,none⟩) N.length N.length) (.slice (some ⟨gP,0,none⟩) N.length N.length) sg.1 sg.2⟩::⟨gY,24,Ys.flatMap zb⟩::⟨gT,24,OS.flatMap zb⟩::rwL 46 s.2.2.2.1 ((s.2.2.1.map O).flatMap odC) (mkz (s.2.2.2.2 - s.2.1) (opC 0 0 0 0 0 0)) s.2.1) (fun s=>W.length - s.1) (0,0,[],0,0) (fun s hi=>?_) ⟨Nat.zero_le _,rfl,rfl,fun h=>absurd h (by decide)⟩
  obtain⟨i,n,nd,gl,cl⟩:=s
  try dsimp only at hi ⊢
  obtain⟨hi,hnd,hn,hr⟩:=hi;have hok:=av (W:=W) (show 0<N.length by omega) i;rw[← hnd] at hok;have hnN:n≤N.length:=by rw[← hn];exact bh hok.1 hok.2
  by_cases hlt:i<W.length
  ·obtain⟨v,hv⟩ : ∃ v,W[i]?=some v:=⟨_,List.getElem?_eq_getElem hlt⟩;have hvb:=hWb v (List.mem_of_getElem? hv);have hvg:W.getD i 0=v:=by rw[List.getD_eq_getElem?_getD,hv];rfl
   obtain⟨t,ht⟩ : ∃ t,v%N.length=t:=⟨_,rfl⟩;have htN:t<N.length:=by rw[← ht];exact Nat.mod_lt _ (by omega)
   have hnx:ndL N.length W (i+1)=if t∈nd then nd else nd++[t]:=by
    show (if W.getD i 0%N.length∈ndL N.length W i then ndL N.length W i else ndL N.length W i++[W.getD i 0%N.length])=_;rw[hvg,ht,← hnd]
   have hadd2:IntKind.i64.wrap ((i:Int)+1)=((i+1:Nat):Int):=zn (by omega) (by omega) (by omega);have hadd4:IntKind.i64.wrap ((t:Int)+1)=((t+1:Nat):Int):=zn (by omega) (by omega) (by omega);have hcv:IntKind.i64.wrap (v:Int)=(v:Int):=i64_in (by omega) (by omega);have hcv4:IntKind.u8.wrap ((t+1:Nat):Int)=((t+1:Nat):Int):=ua (by omega) (by omega) (by omega);have hrem:((v:Int)).tmod (N.length:Int)=(t:Int):=by rw[← ht];rfl
   have hltx:t<X.length:=by omega
   obtain⟨s,hs⟩ : ∃ s,X[t]?=some s:=⟨_,List.getElem?_eq_getElem hltx⟩;have hsb:=hX s (List.mem_of_getElem? hs);have hsg:X.getD t 0=s:=by rw[List.getD_eq_getElem?_getD,hs];rfl
   have hc1:=hcO (t+1) s (by omega) hsb gY sg.1 sg.2;rw[← hsg,hOr t htN,hsg] at hc1;obtain⟨bW,oW,rfl,_,hsW⟩:=id wW |>.get hv
   obtain⟨bX,oX,rfl,_,hsX⟩:=id wX |>.get hs
   have hcy:cut (X.flatMap zb) (oX+t*4 - oX) 4=zb s:=by rw[Nat.add_sub_cancel_left];exact zA zu hs
   have hcw:=aci (o:=oW) hv;have hB2:(nd.map O).flatMap odC++odC (O t)=((nd++[t]).map O).flatMap odC:=by rw[List.map_append,List.flatMap_append];simp
   have hBl:((nd.map O).flatMap odC).length=n*15:=by rw[zy (k:=15) (fun _=>rfl),List.length_map,hn]
   repeat (first|refine Tw ?_|(refine Tm ?_;intro _)|exact Tz)
   refine WC.dT rfl (by omega) ?_
   repeat (first|refine Tw ?_|(refine Tm ?_;intro _)|exact Tz)
   refine WC.adraw 10 (k:=?_)
   iterate 2 (first|refine Da ?_|refine Dc ?_)
   refine DQ.does (fun s _=>za (o':=oW+i*1) rfl rfl hlt rfl) Dp.const ?_;refine DQ.does (fun s _=>zi (hs:=hsW) (hle:=Nat.le_add_right _ _) (hc:=hcw)) Dp.const ?_;refine DQ.does (fun s _=>zr rfl hcv) Dp.const ?_
   iterate 3 (first|refine Da ?_|refine Dc ?_)
   refine DQ.does (fun s _=>tg rfl rfl (by omega) hrem) Dp.const ?_;(first|refine Da ?_|refine Dc ?_);refine DQ.anil (k:=?_);intro sx _
   repeat (first|refine Tw ?_|(refine Tm ?_;intro _)|exact Tz)
   refine WC.loopI (σ:=Nat × Bool) (fun s=>s.1≤n∧s.2=decide (t∈nd.take s.1)) (fun s=>[(2,.slice (some ⟨bW,oW,none⟩) W.length cw),(3,Sx.pt gS),(4,Sx.pt gZ),(7,Sx.pt gD),(9,.slice (some ⟨gT,0,none⟩) m m),(14,agV gl cl n n),(15,.int .i64 (i:Int)),(16,.int .i64 (t:Int)),(17,.bool s.2),(18,.int .i64 (s.1:Int))])
    (fun _=>⟨gS,29,stC p q g h (F:Int) (m:Int) (.slice pt N.length c)⟩::⟨gZ,32,dtC ep d (.slice pz l.length cz) x (.slice (some ⟨bX,oX,none⟩) X.length cx)⟩::⟨gD,37,dlC ep d (.slice (some ⟨gV,0,none⟩) N.length N.length) (.slice (some ⟨gY,0,none⟩) N.length N.length) (.slice (some ⟨gP,0,none⟩) N.length N.length) sg.1 sg.2⟩::⟨gY,24,Ys.flatMap zb⟩::⟨gT,24,OS.flatMap zb⟩::rwL 46 gl ((nd.map O).flatMap odC) (mkz (cl - n) (opC 0 0 0 0 0 0)) n) (fun s=>n - s.1) (0,false) (fun s hk=>?_) ⟨Nat.zero_le _,by simp⟩ (hl:=by repeat (first|exact Lle.nil|exact Lle.same|refine Lle.c ?_))
   obtain⟨k,b⟩:=s
   try dsimp only at hk ⊢
   obtain⟨hk,hb⟩:=hk
   by_cases hlk:k<n
   ·obtain⟨a,ha⟩ : ∃ a,nd[k]?=some a:=⟨_,List.getElem?_eq_getElem (by omega)⟩;have haN:=hok.2 a (List.mem_of_getElem? ha);have htm:=bn (t:=t) ha;have hadd3:IntKind.i64.wrap ((k:Int)+1)=((k+1:Nat):Int):=zn (by omega) (by omega) (by omega);have hcv3:IntKind.i64.wrap ((a+1:Nat):Int)=((a+1:Nat):Int):=i64_in (by omega) (by omega);have hcn:((nd.map O).flatMap odC++mkz (cl - n) (opC 0 0 0 0 0 0))[k*15+2]?=some (.int .u8 ((a+1:Nat):Int)):=by
     have h1:=tP (f:=odC) (k:=15) (r:=mkz (cl - n) (opC 0 0 0 0 0 0)) (fun _=>rfl) (show (nd.map O)[k]?=some (O a) by rw[List.getElem?_map,ha];rfl);have h2:=eu h1 (j:=2) (v:=.int .u8 ((O a).n:Int)) rfl (by decide);rwa [hOn a haN] at h2
    obtain⟨n',rfl⟩ : ∃ n',n=n' + 1:=⟨n - 1,by omega⟩
    try dsimp only[agV,rwL]
    cases b with
    | true =>
     repeat (first|refine Tw ?_|(refine Tm ?_;intro _)|exact Tz)
     refine WC.dT rfl (by omega) ?_
     repeat (first|refine WO.does (zf rfl rfl hadd3) ?_|refine Ta ?_|(refine Tm ?_;intro _)|refine Tc ?_|exact Tz)
     exact WX.metI (k+1,true) (hs:=⟨⟨by show k+1≤n' + 1;omega,(decide_eq_true (htm.2 (.inl (of_decide_eq_true hb.symm)))).symm⟩,by show n' + 1 - (k+1)<n' + 1 - k;omega⟩)
    | false =>
     have hnt:¬ t∈nd.take k:=of_decide_eq_false hb.symm
     by_cases hat:a=t
     ·repeat (first|refine Tw ?_|(refine Tm ?_;intro _)|exact Tz)
      refine WC.dT rfl (by omega) ?_
      repeat (first|refine WO.does (za (o':=k*15) rfl rfl hlk (Nat.zero_add _)) ?_|refine WO.does (zM (hc:=hcn)) ?_|refine WO.does (zr rfl hcv3) ?_|refine WO.does (zf rfl rfl hadd4) ?_|refine WO.does (zf rfl rfl hadd3) ?_|refine WO.does (yx rfl rfl (by omega)) ?_|refine Ta ?_|(refine Tm ?_;intro _)|refine Tc ?_|exact Tz)
      exact WX.metI (k+1,true) (hs:=⟨⟨by show k+1≤n' + 1;omega,(decide_eq_true (htm.2 (.inr hat))).symm⟩,by show n' + 1 - (k+1)<n' + 1 - k;omega⟩)
     ·repeat (first|refine Tw ?_|(refine Tm ?_;intro _)|exact Tz)
      refine WC.dT rfl (by omega) ?_
      repeat (first|refine WO.does (za (o':=k*15) rfl rfl hlk (Nat.zero_add _)) ?_|refine WO.does (zM (hc:=hcn)) ?_|refine WO.does (zr rfl hcv3) ?_|refine WO.does (zf rfl rfl hadd4) ?_|refine WO.does (zf rfl rfl hadd3) ?_|refine WO.does (yV rfl rfl (by omega)) ?_|refine Ta ?_|(refine Tm ?_;intro _)|refine Tc ?_|exact Tz)
      exact WX.metI (k+1,false) (hs:=⟨⟨by show k+1≤n' + 1;omega,(decide_eq_false (fun h'=>(htm.1 h').elim hnt hat)).symm⟩,by show n' + 1 - (k+1)<n' + 1 - k;omega⟩)
   ·have hkn:k=n:=by omega
    subst hkn;rw[show nd.take k=nd by rw[← hn,List.take_length]] at hb
    rcases k with _|k
    ·try dsimp only[agV,rwL]
     repeat (first|refine Tw ?_|(refine Tm ?_;intro _)|exact Tz)
     cases b with
     | true =>
      have hmem:t∈nd:=of_decide_eq_true hb.symm;rw[if_pos hmem] at hnx
      repeat (first|refine WO.does (zf rfl rfl hadd2) ?_|refine Ta ?_|(refine Tm ?_;intro _)|refine Tc ?_|exact Tz)
      exact WX.metI (i+1,0,nd,gl,cl) (hs:=⟨⟨by show i+1≤W.length;omega,hnx.symm,hn,hr⟩,by show W.length - (i+1)<W.length - i;omega⟩)
     | false =>
      have hmem:¬ t∈nd:=of_decide_eq_false hb.symm;rw[if_neg hmem] at hnx
      repeat (first|refine Tw ?_|(refine Tm ?_;intro _)|exact Tz)
      refine WC.adrawF [13] 15 (k:=?_)
      iterate 3 (first|refine Da ?_|refine Dc ?_)
      refine DQ.does (fun s _=>zf rfl rfl hadd4) Dp.const ?_;refine DQ.does (fun s _=>zr rfl hcv4) Dp.const ?_
      iterate 3 (first|refine Da ?_|refine Dc ?_)
      refine DQ.does (fun s _=>za (o':=oX+t*4) rfl rfl hltx rfl) Dp.const ?_;refine DQ.does (fun _ _=>zj (vs:=zb s) (hs:=hsX) (hle:=Nat.le_add_right _ _) (hc:=hcy)) Dp.const ?_;refine DQ.acallM (hc:=hc1 _ _) (hR:=fun w1 hm=>⟨(wN.mod hm.mod).rdK,RdF.ownM (Hs.sg hm) hYl⟩) (k:=?_)
      repeat (first|refine Da ?_|refine Df ?_)
      refine DQ.anil (k:=?_);intro sx _
      repeat (first|refine WO.does (zm rfl rfl rfl) ?_|refine Ta ?_|(refine Tm ?_;intro _)|refine Tc ?_|exact Tz)
      have e0:nd=[]:=List.length_eq_zero_iff.1 hn;subst e0;rw[List.map_nil,List.flatMap_nil,List.nil_append] at hB2
      try dsimp only[agV,rwL]
      repeat (first|refine Ta ?_|(refine Tm ?_;intro _)|(refine WO.makes (zd (cs:=odC (O t)) rfl (by decide) rfl) ?_;intro _)|refine Tc ?_|exact Tz)
      refine WO.appNZ (z:=opC 0 0 0 0 0 0) (ys:=odC (O t)) (m:=1) rfl rfl rfl (Rds.own (m:=15) Hs.here rfl) rfl (by decide) (by decide) (by decide) (by decide) (fun g1 c1 a2 a3=>?_);rw[hB2]
      repeat (first|refine WO.does (zf rfl rfl hadd2) ?_|refine Ta ?_|(refine Tm ?_;intro _)|refine Tc ?_|exact Tz)
      exact WX.metI (i+1,1,[]++[t],g1,c1) (hs:=⟨⟨by show i+1≤W.length;omega,hnx.symm,rfl,fun _=>⟨a2,a3⟩⟩,by show W.length - (i+1)<W.length - i;omega⟩)
    ·try dsimp only[agV,rwL]
     repeat (first|refine Tw ?_|(refine Tm ?_;intro _)|exact Tz)
     refine WC.dF rfl (by omega) ?_;cases b with
     | true =>
      have hmem:t∈nd:=of_decide_eq_true hb.symm;rw[if_pos hmem] at hnx
      repeat (first|refine WO.does (zf rfl rfl hadd2) ?_|refine Ta ?_|(refine Tm ?_;intro _)|refine Tc ?_|exact Tz)
      exact WX.metI (i+1,k+1,nd,gl,cl) (hs:=⟨⟨by show i+1≤W.length;omega,hnx.symm,hn,hr⟩,by show W.length - (i+1)<W.length - i;omega⟩)
     | false =>
      have hmem:¬ t∈nd:=of_decide_eq_false hb.symm;rw[if_neg hmem] at hnx
      repeat (first|refine Tw ?_|(refine Tm ?_;intro _)|exact Tz)
      refine WC.adrawF [13] 15 (k:=?_)
      iterate 3 (first|refine Da ?_|refine Dc ?_)
      refine DQ.does (fun s _=>zf rfl rfl hadd4) Dp.const ?_;refine DQ.does (fun s _=>zr rfl hcv4) Dp.const ?_
      iterate 3 (first|refine Da ?_|refine Dc ?_)
      refine DQ.does (fun s _=>za (o':=oX+t*4) rfl rfl hltx rfl) Dp.const ?_;refine DQ.does (fun _ _=>zj (vs:=zb s) (hs:=hsX) (hle:=Nat.le_add_right _ _) (hc:=hcy)) Dp.const ?_;refine DQ.acallM (hc:=hc1 _ _) (hR:=fun w1 hm=>⟨(wN.mod hm.mod).rdK,RdF.ownM (Hs.sg hm) hYl⟩) (k:=?_)
      repeat (first|refine Da ?_|refine Df ?_)
      refine DQ.anil (k:=?_);intro sx _
      repeat (first|refine WO.does (zm rfl rfl rfl) ?_|refine Ta ?_|(refine Tm ?_;intro _)|refine Tc ?_|exact Tz)
      obtain⟨r1,r2⟩:=hr (by omega)
      try dsimp only[agV,rwL]
      repeat (first|refine Ta ?_|(refine Tm ?_;intro _)|(refine WO.makes (zd (cs:=odC (O t)) rfl (by decide) rfl) ?_;intro _)|refine Tc ?_|exact Tz)
      refine WO.appKZ (z:=opC 0 0 0 0 0 0) (m:=1) (l:=k+1+1) rfl rfl rfl (xs:=(nd.map O).flatMap odC) (ys:=odC (O t)) hBl r2 Pk.a (Rds.own (m:=15) Hs.here rfl) rfl rfl rfl (by omega) r1 (by omega) (by decide) (by decide) (fun g1 c1 a2 a3=>?_);rw[hB2]
      repeat (first|refine WO.does (zf rfl rfl hadd2) ?_|refine Ta ?_|(refine Tm ?_;intro _)|refine Tc ?_|exact Tz)
      exact WX.metI (i+1,k+1+1,nd++[t],g1,c1) (hs:=⟨⟨by show i+1≤W.length;omega,hnx.symm,by show (nd++[t]).length=k+1+1;rw[List.length_append,hn];rfl,fun _=>⟨a2,a3⟩⟩,by show W.length - (i+1)<W.length - i;omega⟩)
  ·have hi3:i=W.length:=by omega
   subst hi3;have hFm:l.length=F+m:=by omega
   have hlsl:(nd.map O).length=n:=by rw[List.length_map,hn]
   by_cases hsh:n<F+m
   ·rcases n with _|n
    ·have e0:nd=[]:=List.length_eq_zero_iff.1 hn;subst e0;have hR:=hRL none 0 [] (by decide) hsh
     try dsimp only[agV,rwL]
     repeat (first|refine Tw ?_|(refine Tm ?_;intro _)|exact Tz)
     refine WC.dF rfl (by omega) ?_
     repeat (first|refine WO.does (vy rfl rfl (by omega)) ?_|refine WO.does (yx rfl rfl rfl) ?_|refine Ta ?_|(refine Tm ?_;intro _)|refine WO.acall (hc:=hA) (k:=?_)|refine WO.acallR (hc:=hR) (hR:=fun w1 hm=>⟨wN.mod hm.mod,RdF.nilV⟩) (k:=?_)|refine Tc ?_|exact Tz)
     done
    ·have hR:=hRL (some ⟨gl,0,none⟩) cl (nd.map O) (by omega) (by omega);rw[hlsl] at hR
     try dsimp only[agV,rwL]
     repeat (first|refine Tw ?_|(refine Tm ?_;intro _)|exact Tz)
     refine WC.dF rfl (by omega) ?_
     repeat (first|refine WO.does (vy rfl rfl (by omega)) ?_|refine WO.does (yx rfl rfl rfl) ?_|refine Ta ?_|(refine Tm ?_;intro _)|refine WO.acall (hc:=hA) (k:=?_)|refine WO.acallR (hc:=hR) (hR:=fun w1 hm=>⟨wN.mod hm.mod,RdF.ownO (Hs.sg hm) hlsl⟩) (k:=?_)|refine Tc ?_|exact Tz)
     done
   ·obtain⟨n,rfl⟩ : ∃ n',n=n' + 1:=⟨n - 1,by omega⟩;have hR:=hRO gl cl (nd.map O) (hOL nd hok.1 hok.2) (by omega) (by omega);rw[hlsl] at hR
    try dsimp only[agV,rwL]
    repeat (first|refine Tw ?_|(refine Tm ?_;intro _)|exact Tz)
    refine WC.dF rfl (by omega) ?_
    repeat (first|refine Tw ?_|(refine Tm ?_;intro _)|exact Tz)
    refine WO.acallX (hc:=hR) (hR:=fun w1 hm=>⟨wN.mod hm.mod,RdF.ownO (Hs.sg hm) hlsl⟩) (k:=fun yy hyy=>?_);clear hyy;generalize yy 0=gG;clear yy;simp only[List.cons_append,List.nil_append]
    repeat (first|refine WO.does (zR rfl rfl (by omega)) ?_|refine WO.does (yx rfl rfl rfl) ?_|refine Ta ?_|(refine Tm ?_;intro _)|refine WO.acall (hc:=hA) (k:=?_)|refine WO.acallR (hc:=hSN gG gT) (hR:=fun w1 hm=>⟨RdF.ownM (Hs.sg hm) hosl,RdF.ownM (Hs.sg hm) hosl⟩) (k:=?_)|refine Tc ?_|exact Tz)
    done
end
theorem sO {p q g h:Nat} {f sec:Int} {N:List (Nat × Nat)} {l X:List Nat} {d x:Nat} (hB:vT p q g h f sec N l d x X=true):∃ F m:Nat,f=(F:Int)∧sec=(m:Int)∧F≤2∧m≤3:=by
 obtain⟨eF,_,_,_⟩:=vl hB;obtain⟨_,hS,_,_,_,_⟩:=yZ eF;obtain⟨_,_,_,hf0,hsec1,hfs,_,_⟩:=yb hS;unfold y6 at hS;simp only[Bool.and_eq_true,decide_eq_true_eq] at hS;exact⟨f.toNat,sec.toNat,by omega,by omega,by omega,by omega⟩
section
variable (p q g h:Nat) (f sec:Int) (pt:Option Addr) (c:Nat) (N:List (Nat × Nat)) (ep d x:Nat) (pz:Option Addr) (cz:Nat) (l:List Nat) (px:Option Addr) (cx:Nat) (X:List Nat) (pw:Option Addr) (cw:Nat) (W:List Nat)
theorem abb (hA:Fn Tryz.prog 9 [] Tr (Is (.bool true))) (hp:p<zc) (hq:q<zc) (hg:g<zc) (hh:h<zc) (hN:yp N) (hl:∀ a∈l,a<zc) (hX:∀ a∈X,a<zc) (hWb:∀ a∈W,a<256)
  (hf1 : -9223372036854775808≤f) (hf2:f≤9223372036854775807) (hs1 : -9223372036854775808≤sec) (hs2:sec≤9223372036854775807) (hd:d<256) (hx:x<zc) (hep:ep<18446744073709551616) :
  Fn Tryz.prog 4 [stV p q g h f sec (.slice pt N.length c),dtV ep d (.slice pz l.length cz) x (.slice px X.length cx),.slice pw W.length cw]
   (fun w=>RdF y9 (.slice pt N.length c) N w∧RdF zb (.slice pz l.length cz) l w∧RdF zb (.slice px X.length cx) X w∧RdF u8C (.slice pw W.length cw) W w) (Is (.bool true)):=by
 have hD:=vR p q g h f sec pt c N ep d x pz cz l px cx X hp hq hg hh hN hl hX hf1 hf2 hs1 hs2 hd hx hep;cases e1:vT p q g h f sec N l d x X with
 | false =>
  have hD':=hD.weak (post':=Is dtN) (fun w hw=>hw) (fun v L hv=>hv.2 e1);refine Fn.enter Tryz.func4 rfl rfl rfl ?_;intro w hw;obtain⟨wN,wl,wX,wW⟩:=hw
  repeat (first|refine Ta ?_|(refine Tm ?_;intro _)|refine WO.acall (hc:=hA) (k:=?_)|refine WO.acallR (hc:=hD') (hR:=fun w1 hm=>⟨wN.mod hm.mod,wl.mod hm.mod,wX.mod hm.mod⟩) (k:=?_)|refine Tc ?_|exact Tz)
  done
 | true =>
 by_cases hW:W.length≤20
 ·obtain⟨F,m,rfl,rfl,hF,hm⟩:=sO e1;exact bI p q g h F m pt c N ep d x pz cz l px cx X pw cw W hA hp hq hg hh hN hl hX hWb hd hx hep hF hm e1 hW
 ·have hD':=hD.weak (post':=dtY p q g l N ep d x) (fun w hw=>hw) (fun v L hv=>hv.1 e1);unfold dtY at hD';refine Fn.enter Tryz.func4 rfl rfl rfl ?_;intro w hw;obtain⟨wN,wl,wX,wW⟩:=hw
  repeat (first|refine Tw ?_|(refine Tm ?_;intro _)|exact Tz)
  refine WO.acallX (hc:=hD') (hR:=fun w1 hm=>⟨wN.mod hm.mod,wl.mod hm.mod,wX.mod hm.mod⟩) (k:=fun yy hyy=>?_);clear hyy;generalize yy 0=gV;generalize yy 1=gY;generalize yy 2=gP;clear yy;simp only[List.cons_append,List.nil_append]
  repeat (first|refine WO.does (z7 rfl rfl (by omega)) ?_|refine Ta ?_|(refine Tm ?_;intro _)|refine WO.acall (hc:=hA) (k:=?_)|refine Tc ?_|exact Tz)
  done
end
def smO (p:Nat) (O U:Nat→Od) (t:Nat):Od:=⟨(O t).e,(O t).d,(O t).n,(O t).z*(U t).z%p,(O t).c,(O t).s⟩
theorem acU {p q g h:Nat} {f sec:Int} {N:List (Nat × Nat)} {ep d:Nat} {l M X:List Nat} {O U:Nat→Od} (hh:gIn p q h=true) (hp:p<zc) (hlm:l.length=M.length)
  (hO:∀ t,t<N.length→OpF p q g h f sec N ep d l X O t) (hU:∀ t,t<N.length→OpF p q g h f sec N ep d M X U t):OpL p q h N (lI l M) ep d ((List.range N.length).map (smO p O U)):=by
 have key:∀ o∈(List.range N.length).map (smO p O U),∃ t,t<N.length∧o=smO p O U t:=fun o ho=>by
  obtain⟨t,ht,rfl⟩:=List.mem_map.1 ho;exact⟨t,List.mem_range.1 ht,rfl⟩
 obtain⟨⟨hp1,_,_⟩,_⟩:=yg hh;constructor
 ·intro o ho;obtain⟨t,ht,rfl⟩:=key o ho;have k:=(hO t ht).ok;exact⟨k.e,k.d,k.n,Nat.lt_trans (Nat.mod_lt _ (by omega)) hp,k.c,k.s⟩
 ·intro o ho;obtain⟨t,ht,rfl⟩:=key o ho;exact (hO t ht).e
 ·intro o ho;obtain⟨t,ht,rfl⟩:=key o ho;exact (hO t ht).d
 ·intro o ho;obtain⟨t,ht,rfl⟩:=key o ho;show 1≤(O t).n∧(O t).n≤N.length;rw[(hO t ht).n];omega
 ·intro o ho;obtain⟨t,ht,rfl⟩:=key o ho;show (O t).z*(U t).z%p=h ^ (zK (lI l M) (O t).n%q)%p;rw[(hO t ht).z,(hU t ht).z,(hO t ht).n,sF l M _ hlm];exact ja hh _ _
 ·rw[List.map_map,List.Nodup,List.pairwise_map];refine List.Pairwise.imp_of_mem (fun ha hb hab=>?_) List.nodup_range;show (O _).n≠(O _).n;rw[(hO _ (List.mem_range.1 ha)).n,(hO _ (List.mem_range.1 hb)).n];omega
section
variable (p q g h:Nat) (F m:Nat) (pt:Option Addr) (c:Nat) (N:List (Nat × Nat)) (ep d x:Nat) (pz:Option Addr) (cz:Nat) (l:List Nat) (px:Option Addr) (cx:Nat) (X:List Nat) (pm:Option Addr) (cm:Nat) (M:List Nat)
theorem fA (hA:Fn Tryz.prog 9 [] Tr (Is (.bool true))) (hp:p<zc) (hq:q<zc) (hg:g<zc) (hh:h<zc) (hN:yp N) (hl:∀ a∈l,a<zc) (hX:∀ a∈X,a<zc) (hMb:∀ a∈M,a<zc)
  (hd:d<256) (hx:x<zc) (hep:ep<18446744073709551616) (hF:F≤2) (hm:m≤3) (e1:vT p q g h (F:Int) (m:Int) N l d x X=true) (e2:oF p q g h (F:Int) (m:Int) N M=true) :
  Fn Tryz.prog 6 [stV p q g h (F:Int) (m:Int) (.slice pt N.length c),dtV ep d (.slice pz l.length cz) x (.slice px X.length cx),.slice pm M.length cm]
   (fun w=>RdF y9 (.slice pt N.length c) N w∧RdF zb (.slice pz l.length cz) l w∧RdF zb (.slice px X.length cx) X w∧RdF zb (.slice pm M.length cm) M w) (Is (.bool true)):=by
 have hD':=(vR p q g h (F:Int) (m:Int) pt c N ep d x pz cz l px cx X hp hq hg hh hN hl hX (by omega) (by omega) (by omega) (by omega) hd hx hep).weak (post':=dtY p q g l N ep d x) (fun w hw=>hw) (fun v L hv=>hv.1 e1);unfold dtY at hD';obtain⟨eF,hXl,hNS,eD⟩:=vl e1;obtain⟨hP,hS,hlen,hall,hNl,hln⟩:=yZ eF;obtain⟨_,_,hlenM,hallM,_,hlnM⟩:=yZ e2;obtain⟨hn1,hn7,hnq,hf0,hsec1,hfs,hmg,hmh⟩:=yb hS;have eD2:rO p q g h (F:Int) (m:Int) N d M x=true:=by
  unfold rO at eD ⊢;rw[hall,decide_eq_true hlen] at eD;rw[hallM,decide_eq_true hlenM];exact eD
 have e3:vT p q g h (F:Int) (m:Int) N M d x X=true:=by
  unfold vT at e1 ⊢;rw[eF,eD,Bool.true_and,Bool.and_true] at e1;rw[e2,eD2,e1];rfl
 obtain⟨O,hO⟩:=uY e1 hp hq hep hd;obtain⟨U,hU⟩:=uY e3 hp hq hep hd;have hlm:l.length=M.length:=by omega
 have hhI:gIn p q h=true:=(hNS 0 (by omega)).more.1;have hq0:0<q:=by omega
 obtain⟨⟨hp1,_,_⟩,_⟩:=yg hhI;have hFi:=oq p q g h (F:Int) (m:Int) pt c N pm cm M hp hq hg hh hN hMb (by omega) (by omega) (by omega) (by omega);rw[e2] at hFi;have hD2:=m4 p q g h (F:Int) (m:Int) pt c N ep d x pm cm M hp hq hg hh hN hNl hMb hlnM (by omega) (by omega) (by omega) (by omega) hd hx hep eD2;have hSa:=tF p q g h (F:Int) pt c N pz cz l m hp hq hg hh hN hNl hl hln (by omega) (by omega) (by omega) (by unfold rX;rw[hS,hall,decide_eq_true hlen];rfl);have hSb:=tF p q g h (F:Int) pt c N pm cm M m hp hq hg hh hN hNl hMb hlnM (by omega) (by omega) (by omega) (by unfold rX;rw[hS,hallM,decide_eq_true hlenM];rfl);have hdY:=qZ (q:=q) (l:=l) (N:=N) (n:=N.length) hp;have hdZ:=qZ (q:=q) (l:=M) (N:=N) (n:=N.length) hp;have hYl:(dYs p q l N N.length).length=N.length:=by simp[dYs]
 have hZl:(dYs p q M N N.length).length=N.length:=by simp[dYs]
 have hcO:=fun (n s:Nat) (hn:n<256) (hs:s<zc) gY sC sS pV pP=>sG p q g h (F:Int) (m:Int) pt c N ep d n s (some ⟨gY,0,none⟩) N.length (dYs p q l N N.length) sC sS pV pP hp hq hg hh hN (by omega) (by omega) (by omega) (by omega) (by omega) hn hs hdY hep hd;have hcU:=fun (n s:Nat) (hn:n<256) (hs:s<zc) gY sC sS pV pP=>sG p q g h (F:Int) (m:Int) pt c N ep d n s (some ⟨gY,0,none⟩) N.length (dYs p q M N N.length) sC sS pV pP hp hq hg hh hN (by omega) (by omega) (by omega) (by omega) (by omega) hn hs hdZ hep hd;have hOr:∀ t,t<N.length→opR p q g h (F:Int) (m:Int) N ep d (t+1) (X.getD t 0) (dYs p q l N N.length)=.tuple #[.agg (odC (O t)).toArray,.int .i64 0]:=fun t ht=>(hO t ht).r;have hUr:∀ t,t<N.length→opR p q g h (F:Int) (m:Int) N ep d (t+1) (X.getD t 0) (dYs p q M N N.length)=.tuple #[.agg (odC (U t)).toArray,.int .i64 0]:=fun t ht=>(hU t ht).r;have hMu:∀ t,t<N.length→Fn Tryz.prog 20 [yR p q g h,ze (O t).z,ze (U t).z] Tr (Is (.tuple #[ze ((O t).z*(U t).z%p),.int .i64 0])):=fun t ht=>by
  have:=nu p q g h (O t).z (U t).z (hO t ht).ok.z (hU t ht).ok.z hp;have g1:yB p (O t).z=true:=by rw[(hO t ht).z];exact yw (uc hhI hq0 _)
  have g2:yB p (U t).z=true:=by rw[(hU t ht).z];exact yw (uc hhI hq0 _)
  rw[g1,g2] at this;exact this
 have hOLs:=acU hhI hp hlm hO hU;have hRO:=fun (gl cl:Nat) (h1:F+m≤((List.range N.length).map (smO p O U)).length) (h2:((List.range N.length).map (smO p O U)).length≤N.length)=>ry p q g h F m pt c N (lI l M) ep d ((List.range N.length).map (smO p O U)) (some ⟨gl,0,none⟩) cl hp hq hg hh hN hNl hP hS (by rw[cJ hlm];omega) hOLs h1 h2;have hFm:F+m≤N.length:=by
  have hS':=hS;unfold y6 at hS';simp only[Bool.and_eq_true,decide_eq_true_eq] at hS';omega
 have hrl:((List.range N.length).map (smO p O U)).length=N.length:=by simp
 have hRO':=fun gl cl=>hRO gl cl (by rw[hrl];exact hFm) (Nat.le_of_eq hrl);rw[hrl] at hRO';have hMk:∀ i,Fn Tryz.prog 20 [yR p q g h,ze (osN p q h l i),ze (osN p q h M i)] Tr (Is (.tuple #[ze (osN p q h (lI l M) i),.int .i64 0])):=fun i=>by
  have b1:osN p q h l i<zc:=rc hp;have b2:osN p q h M i<zc:=rc hp;have:=nu p q g h _ _ b1 b2 hp;have g1:yB p (osN p q h l i)=true:=by unfold osN;rw[uK hhI];exact yw (uc hhI hq0 _)
  have g2:yB p (osN p q h M i)=true:=by unfold osN;rw[uK hhI];exact yw (uc hhI hq0 _)
  rw[g1,g2] at this;rw[← aaY hhI hlm i];exact this
 have hob:∀ i,osN p q h (lI l M) i<zc:=fun i=>rc hp;have hga:∀ i,i<m→(osL p q h l m)[i]?=some (osN p q h l i):=fun i hi=>by unfold osL;rw[List.getElem?_map,List.getElem?_range hi];rfl
 have hgb:∀ i,i<m→(osL p q h M m)[i]?=some (osN p q h M i):=fun i hi=>by unfold osL;rw[List.getElem?_map,List.getElem?_range hi];rfl
 have hgg:∀ i,i<m→(osL p q h (lI l M) m)[i]?=some (osN p q h (lI l M) i):=fun i hi=>by unfold osL;rw[List.getElem?_map,List.getElem?_range hi];rfl
 generalize hSO:smO p O U=S at *;generalize osL p q h l m=OA at *;generalize osL p q h M m=OB at *;generalize osL p q h (lI l M) m=OG at *;generalize dSg p q g l N ep d x N.length=sg at *;generalize dVs p q g l N.length=Vs at *;generalize dYs p q l N N.length=Ys at *;generalize dPs p q g l N ep d x N.length=Ps at *;generalize dSg p q g M N ep d x N.length=sh at *;generalize dVs p q g M N.length=Ws at *;generalize dYs p q M N N.length=Zs at *;generalize dPs p q g M N ep d x N.length=Qs at *;simp only[hYl,hZl] at hcO hcU;clear e1 eF eD hO hNS hU e3 eD2 hOLs hRO hrl;refine Fn.enter Tryz.func6 rfl rfl rfl ?_;intro w hw;obtain⟨wN,wl,wX,wM⟩:=hw
 repeat (first|refine Tw ?_|(refine Tm ?_;intro _)|exact Tz)
 refine WO.acallX (hc:=hD') (hR:=fun w1 hm=>⟨wN.mod hm.mod,wl.mod hm.mod,wX.mod hm.mod⟩) (k:=fun yy hyy=>?_);clear hyy;generalize yy 0=gV;generalize yy 1=gY;generalize yy 2=gP;clear yy;simp only[List.cons_append,List.nil_append]
 repeat (first|refine Ta ?_|(refine Tm ?_;intro _)|refine WO.acallR (hc:=hFi) (hR:=fun w1 hm=>⟨wN.mod hm.mod,wM.mod hm.mod⟩) (k:=?_)|refine Tc ?_|exact Tz)
 refine WO.acallX (hc:=hD2) (hR:=fun w1 hm=>⟨wN.mod hm.mod,wM.mod hm.mod⟩) (k:=fun yy hyy=>?_);clear hyy;generalize yy 0=hV;generalize yy 1=hY;generalize yy 2=hP;clear yy;simp only[List.cons_append,List.nil_append]
 repeat (first|refine WO.does (zm rfl rfl rfl) ?_|refine Ta ?_|(refine Tm ?_;intro _)|refine Tc ?_|exact Tz)
 refine WO.acallX (hc:=hSa) (hR:=fun w1 hm=>⟨wN.mod hm.mod,wl.mod hm.mod⟩) (k:=fun yy hyy=>?_);clear hyy;generalize yy 0=gA;clear yy;simp only[List.cons_append,List.nil_append]
 repeat (first|refine Tw ?_|(refine Tm ?_;intro _)|exact Tz)
 refine WO.acallX (hc:=hSb) (hR:=fun w1 hm=>⟨wN.mod hm.mod,wM.mod hm.mod⟩) (k:=fun yy hyy=>?_);clear hyy;generalize yy 0=gB;clear yy;simp only[List.cons_append,List.nil_append]
 repeat (first|refine Tw ?_|(refine Tm ?_;intro _)|exact Tz)
 rename_i gS gZ gD gE
 refine WC.loopI (σ:=Nat × Nat × Nat) (fun s=>s.1≤N.length∧(0<s.1→s.2.2<9223372036854775808∧s.1≤s.2.2)) (fun s=>[(2,.slice pm M.length cm),(3,Sx.pt gS),(4,Sx.pt gZ),(7,Sx.pt gD),(9,Sx.pt gE),(11,.slice (some ⟨gA,0,none⟩) m m),(12,.int .i64 0),(13,.slice (some ⟨gB,0,none⟩) m m),(14,.int .i64 0),(15,agV s.2.1 s.2.2 s.1 s.1),(16,.int .i64 (s.1:Int))])
  (fun s=>⟨gS,29,stC p q g h (F:Int) (m:Int) (.slice pt N.length c)⟩::⟨gZ,32,dtC ep d (.slice pz l.length cz) x (.slice px X.length cx)⟩::⟨gD,37,dlC ep d (.slice (some ⟨gV,0,none⟩) N.length N.length) (.slice (some ⟨gY,0,none⟩) N.length N.length) (.slice (some ⟨gP,0,none⟩) N.length N.length) sg.1 sg.2⟩::⟨gE,37,dlC ep d (.slice (some ⟨hV,0,none⟩) N.length N.length) (.slice (some ⟨hY,0,none⟩) N.length N.length) (.slice (some ⟨hP,0,none⟩) N.length N.length) sh.1 sh.2⟩::⟨gY,24,Ys.flatMap zb⟩::⟨hY,24,Zs.flatMap zb⟩::⟨gA,24,OA.flatMap zb⟩::⟨gB,24,OB.flatMap zb⟩::rwL 46 s.2.1 (((List.range s.1).map S).flatMap odC) (mkz (s.2.2 - s.1) (opC 0 0 0 0 0 0)) s.1) (fun s=>N.length - s.1) (0,0,0) (fun s hi=>?_) ⟨Nat.zero_le _,fun h=>absurd h (by decide)⟩
 obtain⟨i,gl,cl⟩:=s
 try dsimp only at hi ⊢
 obtain⟨hi,hr⟩:=hi
 by_cases hlt:i<N.length
 ·have hltx:i<X.length:=by omega
  obtain⟨s,hs⟩ : ∃ s,X[i]?=some s:=⟨_,List.getElem?_eq_getElem hltx⟩;have hsb:=hX s (List.mem_of_getElem? hs);have hsg:X.getD i 0=s:=by rw[List.getD_eq_getElem?_getD,hs];rfl
  have hadd2:IntKind.i64.wrap ((i:Int)+1)=((i+1:Nat):Int):=zn (by omega) (by omega) (by omega);have hcv4:IntKind.u8.wrap ((i+1:Nat):Int)=((i+1:Nat):Int):=ua (by omega) (by omega) (by omega);have hc1:=hcO (i+1) s (by omega) hsb gY sg.1 sg.2;rw[← hsg,hOr i hlt,hsg] at hc1;have hc2:=hcU (i+1) s (by omega) hsb hY sh.1 sh.2;rw[← hsg,hUr i hlt,hsg] at hc2;have hMi:=hMu i hlt;have hSi:S i=⟨(O i).e,(O i).d,(O i).n,(O i).z*(U i).z%p,(O i).c,(O i).s⟩:=by rw[← hSO];rfl
  obtain⟨bX,oX,rfl,_,hsX⟩:=id wX |>.get hs
  have hcy:cut (X.flatMap zb) (oX+i*4 - oX) 4=zb s:=by rw[Nat.add_sub_cancel_left];exact zA zu hs
  have hB2:((List.range i).map S).flatMap odC++odC (S i)=((List.range (i+1)).map S).flatMap odC:=by rw[vN,List.flatMap_append];simp
  have hBl:(((List.range i).map S).flatMap odC).length=i*15:=by rw[zy (k:=15) (fun _=>rfl)];simp
  rw[hSi] at hB2;generalize O i=Oi at *;generalize U i=Ui at *;generalize Oi.z*Ui.z%p=zz at *
  repeat (first|refine Tw ?_|(refine Tm ?_;intro _)|exact Tz)
  refine WC.dT rfl (by omega) ?_
  repeat (first|refine Tw ?_|(refine Tm ?_;intro _)|exact Tz)
  refine WC.adrawF [13] 15 (k:=?_)
  iterate 3 (first|refine Da ?_|refine Dc ?_)
  refine DQ.does (fun s _=>zf rfl rfl hadd2) Dp.const ?_;refine DQ.does (fun s _=>zr rfl hcv4) Dp.const ?_
  iterate 3 (first|refine Da ?_|refine Dc ?_)
  refine DQ.does (fun s _=>za (o':=oX+i*4) rfl rfl hltx rfl) Dp.const ?_;refine DQ.does (fun _ _=>zj (vs:=zb s) (hs:=hsX) (hle:=Nat.le_add_right _ _) (hc:=hcy)) Dp.const ?_;refine DQ.acallM (hc:=hc1 _ _) (hR:=fun w1 hm=>⟨(wN.mod hm.mod).rdK,RdF.ownM (Hs.sg hm) hYl⟩) (k:=?_)
  repeat (first|refine Da ?_|refine Df ?_)
  refine DQ.anil (k:=?_);intro sx _
  repeat (first|refine Tw ?_|(refine Tm ?_;intro _)|exact Tz)
  refine WC.adrawF [13] 15 (k:=?_)
  iterate 3 (first|refine Da ?_|refine Dc ?_)
  refine DQ.does (fun s _=>zf rfl rfl hadd2) Dp.const ?_;refine DQ.does (fun s _=>zr rfl hcv4) Dp.const ?_
  iterate 3 (first|refine Da ?_|refine Dc ?_)
  refine DQ.does (fun s _=>za (o':=oX+i*4) rfl rfl hltx rfl) Dp.const ?_;refine DQ.does (fun _ _=>zj (vs:=zb s) (hs:=hsX) (hle:=Nat.le_add_right _ _) (hc:=hcy)) Dp.const ?_;refine DQ.acallM (hc:=hc2 _ _) (hR:=fun w1 hm=>⟨(wN.mod hm.mod).rdK,RdF.ownM (Hs.sg hm) hZl⟩) (k:=?_)
  repeat (first|refine Da ?_|refine Df ?_)
  refine DQ.anil (k:=?_);intro sx _
  repeat (first|refine WO.does (zm rfl rfl rfl) ?_|refine Ta ?_|(refine Tm ?_;intro _)|refine WO.acall (hc:=hMi) (k:=?_)|refine Tc ?_|exact Tz)
  rcases i with _|i
  ·have hB3:odC ⟨Oi.e,Oi.d,Oi.n,zz,Oi.c,Oi.s⟩=((List.range (0+1)).map S).flatMap odC:=by simpa using hB2
   try dsimp only[agV,rwL]
   repeat (first|refine Ta ?_|(refine Tm ?_;intro _)|(refine WO.makes (zd (cs:=odC ⟨Oi.e,Oi.d,Oi.n,zz,Oi.c,Oi.s⟩) rfl (by decide) rfl) ?_;intro _)|refine Tc ?_|exact Tz)
   refine WO.appNZ (z:=opC 0 0 0 0 0 0) (ys:=odC ⟨Oi.e,Oi.d,Oi.n,zz,Oi.c,Oi.s⟩) (m:=1) rfl rfl rfl (Rds.own (m:=15) Hs.here rfl) rfl (by decide) (by decide) (by decide) (by decide) (fun g1 c1 a2 a3=>?_);rw[hB3]
   repeat (first|refine WO.does (zf rfl rfl hadd2) ?_|refine Ta ?_|(refine Tm ?_;intro _)|refine Tc ?_|exact Tz)
   exact WX.metI (0+1,g1,c1) (hs:=⟨⟨by show 0+1≤N.length;omega,fun _=>⟨a2,a3⟩⟩,by show N.length - (0+1)<N.length - 0;omega⟩)
  ·obtain⟨r1,r2⟩:=hr (by omega)
   try dsimp only[agV,rwL]
   repeat (first|refine Ta ?_|(refine Tm ?_;intro _)|(refine WO.makes (zd (cs:=odC ⟨Oi.e,Oi.d,Oi.n,zz,Oi.c,Oi.s⟩) rfl (by decide) rfl) ?_;intro _)|refine Tc ?_|exact Tz)
   refine WO.appKZ (z:=opC 0 0 0 0 0 0) (m:=1) (l:=i+1+1) rfl rfl rfl (xs:=((List.range (i+1)).map S).flatMap odC) (ys:=odC ⟨Oi.e,Oi.d,Oi.n,zz,Oi.c,Oi.s⟩) hBl r2 Pk.a (Rds.own (m:=15) Hs.here rfl) rfl rfl rfl (by omega) r1 (by omega) (by decide) (by decide) (fun g1 c1 a2 a3=>?_);rw[hB2]
   repeat (first|refine WO.does (zf rfl rfl hadd2) ?_|refine Ta ?_|(refine Tm ?_;intro _)|refine Tc ?_|exact Tz)
   exact WX.metI (i+1+1,g1,c1) (hs:=⟨⟨by show i+1+1≤N.length;omega,fun _=>⟨a2,a3⟩⟩,by show N.length - (i+1+1)<N.length - (i+1);omega⟩)
 ·have hi3:i=N.length:=by omega
  subst hi3;rw[iG (by omega),fU (by omega)];have hR:=hRO' gl cl;have hrl:((List.range N.length).map S).length=N.length:=by simp
  repeat (first|refine Tw ?_|(refine Tm ?_;intro _)|exact Tz)
  refine WC.dF rfl (by omega) ?_
  repeat (first|refine Tw ?_|(refine Tm ?_;intro _)|exact Tz)
  refine WO.acallX (hc:=hR) (hR:=fun w1 hm=>⟨wN.mod hm.mod,RdF.ownO (Hs.sg hm) hrl⟩) (k:=fun yy hyy=>?_);clear hyy;generalize yy 0=gG;clear yy;simp only[List.cons_append,List.nil_append]
  repeat (first|refine WO.does (zm rfl rfl rfl) ?_|refine Ta ?_|(refine Tm ?_;intro _)|refine Tc ?_|exact Tz)
  refine WC.loopI (σ:=Nat) (fun i=>i≤m) (fun i=>[(3,Sx.pt gS),(11,.slice (some ⟨gA,0,none⟩) m m),(13,.slice (some ⟨gB,0,none⟩) m m),(21,.slice (some ⟨gG,0,none⟩) m m),(23,.int .i64 (i:Int))])
   (fun _=>[⟨gS,29,stC p q g h (F:Int) (m:Int) (.slice pt N.length c)⟩,⟨gA,24,OA.flatMap zb⟩,⟨gB,24,OB.flatMap zb⟩,⟨gG,24,OG.flatMap zb⟩]) (fun i=>m - i) 0 (fun i hi=>?_) (Nat.zero_le _)
  try dsimp only at hi ⊢
  by_cases hlt:i<m
  ·have hadd2:IntKind.i64.wrap ((i:Int)+1)=((i+1:Nat):Int):=zn (by omega) (by omega) (by omega);have c1:cut (OA.flatMap zb) (0+i*4) 4=zb (osN p q h l i):=by rw[Nat.zero_add];exact zA zu (hga i hlt)
   have c2:cut (OB.flatMap zb) (0+i*4) 4=zb (osN p q h M i):=by rw[Nat.zero_add];exact zA zu (hgb i hlt)
   have c3:cut (OG.flatMap zb) (0+i*4) 4=zb (osN p q h (lI l M) i):=by rw[Nat.zero_add];exact zA zu (hgg i hlt)
   have hMi:=hMk i;have hb:=hob i;generalize osN p q h (lI l M) i=u at *;generalize osN p q h l i=a at *;generalize osN p q h M i=b at *
   repeat (first|refine Tw ?_|(refine Tm ?_;intro _)|exact Tz)
   refine WC.dT rfl (by omega) ?_
   repeat (first|refine Tw ?_|(refine Tm ?_;intro _)|exact Tz)
   refine WC.adrawF [13] 15 (k:=?_)
   iterate 4 (first|refine Da ?_|refine Dc ?_)
   refine DQ.does (fun s _=>za (o':=0+i*4) rfl rfl hlt rfl) Dp.const ?_;refine DQ.does (fun s _=>zx (vs:=zb a) (hc:=c1)) Dp.const ?_
   iterate 2 (first|refine Da ?_|refine Dc ?_)
   refine DQ.does (fun s _=>za (o':=0+i*4) rfl rfl hlt rfl) Dp.const ?_;refine DQ.does (fun s _=>zx (vs:=zb b) (hc:=c2)) Dp.const ?_;refine DQ.acall (hc:=hMi) (k:=?_)
   repeat (first|refine Da ?_|refine Df ?_)
   refine DQ.anil (k:=?_);intro sx _
   repeat (first|refine Tw ?_|(refine Tm ?_;intro _)|exact Tz)
   refine WC.adraw 10 (k:=?_)
   iterate 10 (first|refine DQ.does (fun s _=>zm rfl rfl rfl) Dp.const ?_|refine DQ.does (fun s _=>za (o':=0+i*4) rfl rfl hlt rfl) Dp.const ?_|refine DQ.does (fun s _=>zx (vs:=zb u) (hc:=c3)) Dp.const ?_|refine DQ.does (fun s _=>uk rfl rfl hb hb (decide_eq_false (fun h=>h rfl))) Dp.const ?_|refine Da ?_|refine Dc ?_)
   refine DQ.anil (k:=?_);intro sx _
   repeat (first|refine WO.does (zf rfl rfl hadd2) ?_|refine Ta ?_|(refine Tm ?_;intro _)|refine Tc ?_|exact Tz)
   exact WX.metI (i+1) (hs:=⟨by show i+1≤m;omega,by show m - (i+1)<m - i;omega⟩)
  ·have hi4:i=m:=by omega
   subst hi4
   repeat (first|refine Tw ?_|(refine Tm ?_;intro _)|exact Tz)
   refine WC.dF rfl (by omega) ?_
   repeat (first|refine Ta ?_|(refine Tm ?_;intro _)|refine WO.acall (hc:=hA) (k:=?_)|refine Tc ?_|exact Tz)
   done
end
section
variable (p q g h:Nat) (f sec:Int) (pt:Option Addr) (c:Nat) (N:List (Nat × Nat)) (ep d x:Nat) (pz:Option Addr) (cz:Nat) (l:List Nat) (px:Option Addr) (cx:Nat) (X:List Nat) (pm:Option Addr) (cm:Nat) (M:List Nat)
theorem ce (hA:Fn Tryz.prog 9 [] Tr (Is (.bool true))) (hp:p<zc) (hq:q<zc) (hg:g<zc) (hh:h<zc) (hN:yp N) (hl:∀ a∈l,a<zc) (hX:∀ a∈X,a<zc) (hMb:∀ a∈M,a<zc)
  (hf1 : -9223372036854775808≤f) (hf2:f≤9223372036854775807) (hs1 : -9223372036854775808≤sec) (hs2:sec≤9223372036854775807) (hd:d<256) (hx:x<zc) (hep:ep<18446744073709551616) :
  Fn Tryz.prog 6 [stV p q g h f sec (.slice pt N.length c),dtV ep d (.slice pz l.length cz) x (.slice px X.length cx),.slice pm M.length cm]
   (fun w=>RdF y9 (.slice pt N.length c) N w∧RdF zb (.slice pz l.length cz) l w∧RdF zb (.slice px X.length cx) X w∧RdF zb (.slice pm M.length cm) M w) (Is (.bool true)):=by
 have hD:=vR p q g h f sec pt c N ep d x pz cz l px cx X hp hq hg hh hN hl hX hf1 hf2 hs1 hs2 hd hx hep;have hFi:=oq p q g h f sec pt c N pm cm M hp hq hg hh hN hMb hf1 hf2 hs1 hs2;cases e1:vT p q g h f sec N l d x X with
 | false =>
  have hD':=hD.weak (post':=Is dtN) (fun w hw=>hw) (fun v L hv=>hv.2 e1);refine Fn.enter Tryz.func6 rfl rfl rfl ?_;intro w hw;obtain⟨wN,wl,wX,wM⟩:=hw
  repeat (first|refine Ta ?_|(refine Tm ?_;intro _)|refine WO.acall (hc:=hA) (k:=?_)|refine WO.acallR (hc:=hD') (hR:=fun w1 hm=>⟨wN.mod hm.mod,wl.mod hm.mod,wX.mod hm.mod⟩) (k:=?_)|refine Tc ?_|exact Tz)
  done
 | true =>
 cases e2:oF p q g h f sec N M with
 | true =>
  obtain⟨F,m,rfl,rfl,hF,hm⟩:=sO e1;exact fA p q g h F m pt c N ep d x pz cz l px cx X pm cm M hA hp hq hg hh hN hl hX hMb hd hx hep hF hm e1 e2
 | false =>
  have hD':=hD.weak (post':=dtY p q g l N ep d x) (fun w hw=>hw) (fun v L hv=>hv.1 e1);unfold dtY at hD';rw[e2] at hFi;refine Fn.enter Tryz.func6 rfl rfl rfl ?_;intro w hw;obtain⟨wN,wl,wX,wM⟩:=hw
  repeat (first|refine Tw ?_|(refine Tm ?_;intro _)|exact Tz)
  refine WO.acallX (hc:=hD') (hR:=fun w1 hm=>⟨wN.mod hm.mod,wl.mod hm.mod,wX.mod hm.mod⟩) (k:=fun yy hyy=>?_);clear hyy;generalize yy 0=gV;generalize yy 1=gY;generalize yy 2=gP;clear yy;simp only[List.cons_append,List.nil_append]
  repeat (first|refine Ta ?_|(refine Tm ?_;intro _)|refine WO.acall (hc:=hA) (k:=?_)|refine WO.acallR (hc:=hFi) (hR:=fun w1 hm=>⟨wN.mod hm.mod,wM.mod hm.mod⟩) (k:=?_)|refine Tc ?_|exact Tz)
  done
end
end Sx
end
section
open Go Go.RowKit Go.BigFrame Go.WideShapes
namespace Sx
theorem yN (cs:List Value) (a b c:Nat):cut cs a b++cut cs (a+b) c=cut cs a (b+c):=by
 unfold cut;rw[List.take_add,List.drop_drop]
section
variable {H:Type} {enc:TypeId × Value→H} {P:Program} {w:World} {base:Nat} {spare:Nat→Bool} {held:Bool} {fuel:Nat} {cs:List Value} {x:DataW H × List MemPlace}
theorem uX {t:TypeId} {fs:Array Field} {m:Nat} (ht:P.underlying t=some (.struct fs)) (hm:P.cellsOf t=m) (h:DataW.trod enc P w base spare held fuel t cs=some x):cs.length=m:=by
 obtain⟨xs,n,_,_,hl,_⟩:=DataW.trod_struct ht h;rw[hl,hm]
theorem zY {t:TypeId} {fs:Array Field} (ht:P.underlying t=some (.struct fs)) (h:DataW.trod enc P w base spare held fuel t cs=some x) {i off ty sz:Nat} {f:Field} (hf:fs[i]?=some f) (ho:f.offset=off) (hty:f.type=ty) (hs:P.cellsOf ty=sz) :
  ∃ n y,DataW.trod enc P w base spare held n ty (cut cs off sz)=some y:=by
 obtain⟨xs,n,_,_,_,hlen,hp⟩:=DataW.trod_struct ht h;have h1:=hp i f hf;subst ho hty hs;have hi:i<xs.length:=by
  rw[hlen]
  rcases Nat.lt_or_ge i fs.size with h2|h2
  ·exact h2
  ·rw[Array.getElem?_eq_none h2] at hf;cases hf
 rw[List.getElem?_eq_getElem hi] at h1;exact⟨n,_,h1⟩
theorem uQ {t:TypeId} (ht:P.underlying t=some (.int .u64)) (h:DataW.trod enc P w base spare held fuel t cs=some x):∃ n:Nat,n<18446744073709551616∧cs=[.int .u64 (n:Int)]:=by
 obtain⟨n,rfl,_,hw⟩:=DataW.trod_int ht h;simp only[Lit.wf,IntKind.min,IntKind.max,IntKind.signed,IntKind.bits,Bool.and_eq_true,decide_eq_true_eq] at hw;have h1:(0:Int)≤n:=by simpa using hw.1
 have h2:n≤18446744073709551615:=by simpa using hw.2
 exact⟨n.toNat,by omega,by rw[Int.toNat_of_nonneg h1]⟩
theorem o8 {t:TypeId} (ht:P.underlying t=some (.int .u8)) (h:DataW.trod enc P w base spare held fuel t cs=some x):∃ n:Nat,n<256∧cs=[.int .u8 (n:Int)]:=by
 obtain⟨n,rfl,_,hw⟩:=DataW.trod_int ht h;simp only[Lit.wf,IntKind.min,IntKind.max,IntKind.signed,IntKind.bits,Bool.and_eq_true,decide_eq_true_eq] at hw;have h1:(0:Int)≤n:=by simpa using hw.1
 have h2:n≤255:=by simpa using hw.2
 exact⟨n.toNat,by omega,by rw[Int.toNat_of_nonneg h1]⟩
theorem nG {t:TypeId} (ht:P.underlying t=some (.int .i64)) (h:DataW.trod enc P w base spare held fuel t cs=some x):∃ n:Int,-9223372036854775808≤n∧n≤9223372036854775807∧cs=[.int .i64 n]:=by
 obtain⟨n,rfl,_,hw⟩:=DataW.trod_int ht h;simp only[Lit.wf,IntKind.min,IntKind.max,IntKind.signed,IntKind.bits,Bool.and_eq_true,decide_eq_true_eq] at hw;exact⟨n,by simpa using hw.1,by simpa using hw.2,rfl⟩
theorem fK {t e:TypeId} (ht:P.underlying t=some (.array 4 e)) (he:P.underlying e=some (.int .u64)) (h4:P.cellsOf t=4) (h1:P.cellsOf e=1) (h:DataW.trod enc P w base spare held fuel t cs=some x):∃ n:Nat,n<zc∧cs=zb n:=by
 obtain⟨xs,m,_,_,hl,hlen,hp⟩:=DataW.trod_array ht h;rw[h4] at hl
 match cs,hl with
 | [c0,c1,c2,c3],_ =>
  have k:∀ (i:Nat),i<4→∃ y,DataW.trod enc P w base spare held m e (([c0,c1,c2,c3].drop (i*P.cellsOf e)).take (P.cellsOf e))=some y:=fun i hi=>by
   have h2:=hp i hi;rw[List.getElem?_eq_getElem (by omega)] at h2;exact⟨_,h2⟩
  rw[h1] at k;obtain⟨y0,k0⟩:=k 0 (by omega);obtain⟨y1,k1⟩:=k 1 (by omega);obtain⟨y2,k2⟩:=k 2 (by omega);obtain⟨y3,k3⟩:=k 3 (by omega);obtain⟨a0,b0,e0⟩:=uQ he k0;obtain⟨a1,b1,e1⟩:=uQ he k1;obtain⟨a2,b2,e2⟩:=uQ he k2;obtain⟨a3,b3,e3⟩:=uQ he k3;simp at e0 e1 e2 e3;subst e0 e1 e2 e3;obtain⟨w0,w1,w2,w3⟩:=iT b0 b1 b2 b3;exact⟨tm a0 a1 a2 a3,lq b0 b1 b2 b3,by rw[zb,w0,w1,w2,w3]⟩
theorem Seg.app {b o:Nat} {A B:List Value} (hA:Seg w b o A) (hB:Seg w b (o+A.length) B):Seg w b o (A++B):=by
 intro i v hv
 rcases Nat.lt_or_ge i A.length with h|h
 ·rw[List.getElem?_append_left h] at hv;exact hA i v hv
 ·rw[List.getElem?_append_right h] at hv;have:=hB _ v hv;rwa [show o+A.length+(i - A.length)=o+i by omega] at this
theorem seg_of_cells {b o n:Nat} {l:List Value} (h:w.cells? base ⟨b,o,none⟩ n=some l):Seg w b o l:=by
 obtain⟨_,hl,hc⟩:=World.cells?_some h;intro i v hv;have hi:i<n:=by
  rw[← hl]
  rcases Nat.lt_or_ge i l.length with h1|h1
  ·exact h1
  ·rw[List.getElem?_eq_none h1] at hv;cases hv
 have:=hc i hi;rw[vZ] at this;rw[this,hv]
theorem uM {α:Type} {f:α→List Value} {ok:α→Prop} {t e:TypeId} {k:Nat} (ht:P.underlying t=some (.slice e)) (hk:P.cellsOf e=k) (hf:∀ a,(f a).length=k)
  (hE:∀ (fuel:Nat) (cs:List Value) (x:DataW H × List MemPlace),DataW.trod enc P w base spare held fuel e cs=some x→∃ a,ok a∧cs=f a)
  (h:DataW.trod enc P w base spare held fuel t cs=some x) (hs:∀ a l c,cs=[.slice (some a) l c]→a.spot=none) :
  ∃ pt xs c,cs=[.slice pt xs.length c]∧(∀ a∈xs,ok a)∧RdF f (.slice pt xs.length c) xs w:=by
 rcases DataW.trod_slice ht h with ⟨rfl,_⟩|⟨a,len,cap,elems,rest,n,_,rfl,_,_,_,_,hlen,hel,_⟩
 ·exact⟨none,[],0,rfl,by simp,none,0,rfl,.inl ⟨rfl,rfl⟩⟩
 have ha:=hs a len cap rfl;obtain⟨b,o,sp⟩:=a;simp only at ha;subst ha;have key:∀ m,m≤len→∃ xs:List α,xs.length=m∧(∀ a∈xs,ok a)∧Seg w b o (xs.flatMap f):=by
  intro m
  induction m with
  | zero=>exact fun _=>⟨[],rfl,by simp,fun i v hv=>by simp at hv⟩
  | succ m ih =>
   intro hm;obtain⟨xs,h1,h2,h3⟩:=ih (by omega);have h4:=hel m (by omega);rw[List.getElem?_eq_getElem (by omega),hk,vZ] at h4;cases h5:w.cells? base ⟨b,o+m*k,none⟩ k with
   | none=>rw[h5] at h4;cases h4
   | some l =>
    rw[h5] at h4;obtain⟨y,hy,rfl⟩:=hE n l _ h4;refine⟨xs++[y],by simp[h1],fun a ha=>?_,?_⟩
    ·rcases List.mem_append.1 ha with ha|ha
     ·exact h2 a ha
     ·obtain rfl:=List.mem_singleton.1 ha;exact hy
    ·rw[List.flatMap_append];refine h3.app ?_;rw[zy hf,h1];simpa using seg_of_cells h5
 obtain⟨xs,rfl,h2,h3⟩:=key len (Nat.le_refl _);exact⟨some ⟨b,o,none⟩,xs,cap,rfl,h2,_,cap,rfl,.inr ⟨b,o,rfl,h3⟩⟩
theorem zQ {r:Reach} {b0:Nat} {t u e:TypeId} {cs:Array Value} {ts:List TypeId} {fs:Array Field} {i:Nat} (ht:P.underlying t=some (.struct fs)) (hts:P.cellTypes P.depth t=some ts) (hn:ts.length=P.cellsOf t)
  (hv:Value.okWide P w r b0 t (.agg cs)) (hu:ts[i]?=some u) (hue:P.underlying u=some (.slice e)):∀ a l c,cs[i]?=some (.slice (some a) l c)→a.spot=none:=by
 intro a l c hc;unfold Value.okWide at hv;rw[ht] at hv;obtain⟨cs',h1,h2,ts',h3,_,h4⟩:=hv;cases h1;rw[hts] at h3;cases h3;obtain⟨u',h5,h6⟩:=h4 i _ hc;have hi:i<ts.length:=by
  rcases Nat.lt_or_ge i ts.length with h|h
  ·exact h
  ·rw[List.getElem?_eq_none h] at hu;cases hu
 rw[Nat.mod_eq_of_lt hi,hu] at h5;cases h5;unfold Cell.okWide Cell.ok at h6;rw[hue] at h6;exact h6.2.2.2.1
theorem td {r:Reach} {b0:Nat} {t u e:TypeId} {cs:Array Value} {ts:List TypeId} {fs:Array Field} {i:Nat} (ht:P.underlying t=some (.struct fs)) (hts:P.cellTypes P.depth t=some ts) (hn:ts.length=P.cellsOf t)
  (hv:Value.okWide P w r b0 t (.agg cs)) (hu:ts[i]?=some u) (hue:P.underlying u=some (.slice e)) {p:Option Addr} {l c:Nat} (hc:cs[i]?=some (.slice p l c)):l≤c:=by
 unfold Value.okWide at hv;rw[ht] at hv;obtain⟨cs',h1,h2,ts',h3,_,h4⟩:=hv;cases h1;rw[hts] at h3;cases h3;obtain⟨u',h5,h6⟩:=h4 i _ hc;have hi:i<ts.length:=by
  rcases Nat.lt_or_ge i ts.length with h|h
  ·exact h
  ·rw[List.getElem?_eq_none h] at hu;cases hu
 rw[Nat.mod_eq_of_lt hi,hu] at h5;cases h5;unfold Cell.okWide Cell.ok at h6;rw[hue] at h6;cases p with
 | none=>cases l<;>cases c<;>simp_all
 | some a=>exact h6.1
theorem nq {r:Reach} {b0:Nat} {t:TypeId} {n:Nat} {e:TypeId} {v:Value} (ht:P.underlying t=some (.array n e)) (h:Value.okWide P w r b0 t v):∃ cs,v=.agg cs:=by
 unfold Value.okWide at h;rw[ht] at h;obtain⟨cs,h1,_⟩:=h;exact⟨cs,h1⟩
theorem pk {r:Reach} {b0:Nat} {t e:TypeId} {v:Value} (ht:P.underlying t=some (.slice e)) (h:Value.okWide P w r b0 t v):∃ a l c,v=.slice a l c∧∀ b,a=some b→b.spot=none:=by
 obtain⟨a,l,c,rfl⟩:=okWide_slice ht h;refine⟨a,l,c,rfl,?_⟩;rintro b rfl;simp only[Value.okWide,ht,Cell.okWide,Cell.ok] at h;exact h.2.2.2.1
end
section
variable {H:Type} {enc:TypeId × Value→H} {w:World} {base:Nat} {spare:Nat→Bool} {held:Bool} {fuel:Nat} {cs:List Value} {x:DataW H × List MemPlace}
theorem acq:Tryz.prog.cellsOf 22=1:=by kernel_rfl
theorem ada:Tryz.prog.cellsOf 5=1:=by kernel_rfl
theorem acy:Tryz.prog.cellsOf 3=1:=by kernel_rfl
theorem rt:Tryz.prog.cellsOf 24=4:=by kernel_rfl
theorem gm:Tryz.prog.cellsOf 26=16:=by kernel_rfl
theorem acb:Tryz.prog.cellsOf 72=8:=by kernel_rfl
theorem acA:Tryz.prog.cellsOf 27=1:=by kernel_rfl
theorem aF:Tryz.prog.cellsOf 30=1:=by kernel_rfl
theorem y4:Tryz.prog.cellsOf 29=19:=by kernel_rfl
theorem rr (h:DataW.trod enc Tryz.prog w base spare held fuel 24 cs=some x):∃ n:Nat,n<zc∧cs=zb n:=fK Tryz.underlying24 Tryz.underlying22 rt acq h
theorem ado (h:DataW.trod enc Tryz.prog w base spare held fuel 72 cs=some x):∃ k:Nat × Nat,(k.1<zc∧k.2<zc)∧cs=y9 k:=by
 have hl:=uX Tryz.underlying72 acb h;obtain⟨_,_,h0⟩:=zY Tryz.underlying72 h (i:=0) (off:=0) (ty:=24) rfl rfl rfl rt;obtain⟨_,_,h1⟩:=zY Tryz.underlying72 h (i:=1) (off:=4) (ty:=24) rfl rfl rfl rt;obtain⟨a,ha,e0⟩:=rr h0;obtain⟨b,hb,e1⟩:=rr h1;refine⟨(a,b),⟨ha,hb⟩,?_⟩;rw[← yA hl,← yN cs 0 4 4,e0,e1];rfl
theorem aas (h:DataW.trod enc Tryz.prog w base spare held fuel 26 cs=some x):∃ p q g u,p<zc∧q<zc∧g<zc∧u<zc∧cs=vu p q g u:=by
 have hl:=uX Tryz.underlying26 gm h;obtain⟨_,_,h0⟩:=zY Tryz.underlying26 h (i:=0) (off:=0) (ty:=24) rfl rfl rfl rt;obtain⟨_,_,h1⟩:=zY Tryz.underlying26 h (i:=1) (off:=4) (ty:=24) rfl rfl rfl rt;obtain⟨_,_,h2⟩:=zY Tryz.underlying26 h (i:=2) (off:=8) (ty:=24) rfl rfl rfl rt;obtain⟨_,_,h3⟩:=zY Tryz.underlying26 h (i:=3) (off:=12) (ty:=24) rfl rfl rfl rt;obtain⟨a,ha,e0⟩:=rr h0;obtain⟨b,hb,e1⟩:=rr h1;obtain⟨c,hc,e2⟩:=rr h2;obtain⟨d,hd,e3⟩:=rr h3;refine⟨a,b,c,d,ha,hb,hc,hd,?_⟩;rw[← yA hl,← yN cs 0 4 12,← yN cs (0+4) 4 8,← yN cs (0+4+4) 4 4,e0,e1,e2,e3];rfl
theorem m5 {i:Nat} {v:Value} (h:cut cs i 1=[v]):cs[i]?=some v:=by
 have:=uP (j:=0) (v:=v) h rfl;rwa [Nat.add_zero] at this
theorem tG (h:DataW.trod enc Tryz.prog w base spare held fuel 29 cs=some x) (hs:∀ a l c,cs[18]?=some (.slice (some a) l c)→a.spot=none) :
  ∃ p q g u f sec pt N c,p<zc∧q<zc∧g<zc∧u<zc∧(-9223372036854775808≤f∧f≤9223372036854775807∧-9223372036854775808≤sec∧sec≤9223372036854775807)∧yp N∧cs=stC p q g u f sec (.slice pt N.length c)∧RdF y9 (.slice pt N.length c) N w:=by
 have hl:=uX Tryz.underlying29 y4 h;obtain⟨_,_,h0⟩:=zY Tryz.underlying29 h (i:=0) (off:=0) (ty:=26) rfl rfl rfl gm;obtain⟨_,_,h1⟩:=zY Tryz.underlying29 h (i:=1) (off:=16) (ty:=3) rfl rfl rfl acy;obtain⟨_,_,h2⟩:=zY Tryz.underlying29 h (i:=2) (off:=17) (ty:=3) rfl rfl rfl acy;obtain⟨_,_,h3⟩:=zY Tryz.underlying29 h (i:=3) (off:=18) (ty:=27) rfl rfl rfl acA;obtain⟨p,q,g,u,hp,hq,hg,hu,e0⟩:=aas h0;obtain⟨f,hf1,hf2,e1⟩:=nG Tryz.underlying3 h1;obtain⟨sec,hs1,hs2,e2⟩:=nG Tryz.underlying3 h2;obtain⟨pt,N,c,e3,hN,hR⟩:=uM (f:=y9) (ok:=fun k=>k.1<zc∧k.2<zc) Tryz.underlying27 acb tb (fun _ _ _ h=>ado h) h3 (fun a l c e=>hs a l c (m5 e));refine⟨p,q,g,u,f,sec,pt,N,c,hp,hq,hg,hu,⟨hf1,hf2,hs1,hs2⟩,hN,?_,hR⟩;rw[← yA hl,← yN cs 0 16 3,← yN cs (0+16) 1 2,← yN cs (0+16+1) 1 1,e0,e1,e2,e3];rfl
theorem ab7 (h:DataW.trod enc Tryz.prog w base spare held fuel 30 cs=some x) (hs:∀ a l c,cs=[.slice (some a) l c]→a.spot=none) :
  ∃ pt l c,cs=[.slice pt (List.length l) c]∧(∀ y∈l,y<zc)∧RdF zb (.slice pt l.length c) l w :=
 uM (f:=zb) (ok:=fun y=>y<zc) Tryz.underlying30 rt zu (fun _ _ _ h=>rr h) h hs
theorem uz:Tryz.prog.cellsOf 32=8:=by kernel_rfl
theorem oy (h:DataW.trod enc Tryz.prog w base spare held fuel 32 cs=some x) (hs:∀ i,i=2∨i=7→∀ a l c,cs[i]?=some (.slice (some a) l c)→a.spot=none) :
  ∃ ep d pl l cl u px X cx,ep<18446744073709551616∧d<256∧(∀ y∈l,y<zc)∧u<zc∧(∀ y∈X,y<zc)∧cs=dtC ep d (.slice pl (List.length l) cl) u (.slice px (List.length X) cx)∧RdF zb (.slice pl l.length cl) l w∧RdF zb (.slice px X.length cx) X w:=by
 have hl:=uX Tryz.underlying32 uz h;obtain⟨_,_,h0⟩:=zY Tryz.underlying32 h (i:=0) (off:=0) (ty:=22) rfl rfl rfl acq;obtain⟨_,_,h1⟩:=zY Tryz.underlying32 h (i:=1) (off:=1) (ty:=5) rfl rfl rfl ada;obtain⟨_,_,h2⟩:=zY Tryz.underlying32 h (i:=2) (off:=2) (ty:=30) rfl rfl rfl aF;obtain⟨_,_,h3⟩:=zY Tryz.underlying32 h (i:=3) (off:=3) (ty:=24) rfl rfl rfl rt;obtain⟨_,_,h4⟩:=zY Tryz.underlying32 h (i:=4) (off:=7) (ty:=30) rfl rfl rfl aF;obtain⟨ep,hep,e0⟩:=uQ Tryz.underlying22 h0;obtain⟨d,hd,e1⟩:=o8 Tryz.underlying5 h1;obtain⟨pl,l,cl,e2,hlb,hL⟩:=uM (f:=zb) (ok:=fun y=>y<zc) Tryz.underlying30 rt zu (fun _ _ _ h=>rr h) h2 (fun a l c e=>hs 2 (.inl rfl) a l c (m5 e));obtain⟨u,hu,e3⟩:=rr h3;obtain⟨px,X,cx,e4,hXb,hX⟩:=uM (f:=zb) (ok:=fun y=>y<zc) Tryz.underlying30 rt zu (fun _ _ _ h=>rr h) h4 (fun a l c e=>hs 7 (.inr rfl) a l c (m5 e));refine⟨ep,d,pl,l,cl,u,px,X,cx,hep,hd,hlb,hu,hXb,?_,hL,hX⟩;rw[← yA hl,← yN cs 0 1 7,← yN cs (0+1) 1 6,← yN cs (0+1+1) 1 5,← yN cs (0+1+1+1) 4 1,e0,e1,e2,e3,e4];rfl
theorem aaD:Tryz.prog.cellsOf 67=5:=by kernel_rfl
theorem aaW (h:DataW.trod enc Tryz.prog w base spare held fuel 67 cs=some x):∃ z b,z<256∧b<zc∧cs=spC z b:=by
 have hl:=uX Tryz.underlying67 aaD h;obtain⟨_,_,h0⟩:=zY Tryz.underlying67 h (i:=0) (off:=0) (ty:=5) rfl rfl rfl ada;obtain⟨_,_,h1⟩:=zY Tryz.underlying67 h (i:=1) (off:=1) (ty:=24) rfl rfl rfl rt;obtain⟨z,hz,e0⟩:=o8 Tryz.underlying5 h0;obtain⟨b,hb,e1⟩:=rr h1;refine⟨z,b,hz,hb,?_⟩;rw[← yA hl,← yN cs 0 1 4,e0,e1];rfl
theorem ac1 (h:DataW.trod enc Tryz.prog w base spare held fuel 52 cs=some x) (hs:∀ a l c,cs=[.slice (some a) l c]→a.spot=none) :
  ∃ pt l c,cs=[.slice pt (List.length l) c]∧(∀ y∈l,y<256)∧RdF u8C (.slice pt l.length c) l w :=
 uM (f:=u8C) (ok:=fun y=>y<256) Tryz.underlying52 ada (fun _=>rfl) (fun _ _ _ h=>o8 Tryz.underlying5 h) h hs
end
end Sx
end
end Go.Proofs.YtbhblpnjhkddbaaGreat
namespace Go.Proofs.YtbhblpnjhkddbaaGreat.Ou
section
open Go Go.RowKit Go.BigFrame Go.ChangeShapes Go.WideShapes Go.ChangeAt Sx
theorem own:ownKnob Tryz.prog.godebug=none:=by kernel_rfl
theorem ya:Tryz.prog.cellTypes Tryz.prog.depth 29=some (List.replicate 16 22++[3,3,27]):=by kernel_rfl
theorem iB:laidOutB Tryz.prog=true:=by kernel_rfl
theorem uA:Tryz.prog.readableRec 29=true:=by kernel_rfl
theorem tO:Tryz.prog.readableRec 32=true:=by kernel_rfl
theorem yC:Tryz.prog.cellTypes Tryz.prog.depth 32=some ([22,5,30]++List.replicate 4 22++[30]):=by kernel_rfl
theorem fM:Tryz.prog.readableRec 67=true:=by kernel_rfl
theorem abA:Tryz.prog.readableRec 24=true:=by kernel_rfl
theorem abF:Tryz.prog.readableRec 52=true:=by kernel_rfl
theorem bu:Tryz.prog.readableRec 30=true:=by kernel_rfl
end
end Go.Proofs.YtbhblpnjhkddbaaGreat.Ou
namespace Go.Proofs.YtbhblpnjhkddbaaGreat
section
open Go Go.RowKit Go.BigFrame
namespace Sx
attribute [local irreducible] DQ DQS WC WO WX wd
section
variable (p q g h:Nat) (f sec:Int) (pt:Option Addr) (c:Nat) (N:List (Nat × Nat)) (ep d x:Nat) (pz:Option Addr) (cz:Nat) (l:List Nat) (px:Option Addr) (cx:Nat) (X:List Nat) (a b:Nat)
theorem ed (hA:Fn Tryz.prog 9 [] Tr (Is (.bool true))) (hp:p<zc) (hq:q<zc) (hg:g<zc) (hh:h<zc) (hN:yp N) (hl:∀ a∈l,a<zc) (hX:∀ a∈X,a<zc) (ha:a<256) (hb:b<zc)
  (hf1 : -9223372036854775808≤f) (hf2:f≤9223372036854775807) (hs1 : -9223372036854775808≤sec) (hs2:sec≤9223372036854775807) (hd:d<256) (hx:x<zc) (hep:ep<18446744073709551616) :
  Fn Tryz.prog 7 [stV p q g h f sec (.slice pt N.length c),dtV ep d (.slice pz l.length cz) x (.slice px X.length cx),spV a b]
   (fun w=>RdF y9 (.slice pt N.length c) N w∧RdF zb (.slice pz l.length cz) l w∧RdF zb (.slice px X.length cx) X w) (Is (.bool true)):=by
 have hD:=vR p q g h f sec pt c N ep d x pz cz l px cx X hp hq hg hh hN hl hX hf1 hf2 hs1 hs2 hd hx hep;cases e1:vT p q g h f sec N l d x X with
 | false =>
  have hD':=hD.weak (post':=Is dtN) (fun w hw=>hw) (fun v L hv=>hv.2 e1);refine Fn.enter Tryz.func7 rfl rfl rfl ?_;intro w hw;obtain⟨wN,wl,wX⟩:=hw
  repeat (first|refine Ta ?_|(refine Tm ?_;intro _)|refine WO.acall (hc:=hA) (k:=?_)|refine WO.acallR (hc:=hD') (hR:=fun w1 hm=>⟨wN.mod hm.mod,wl.mod hm.mod,wX.mod hm.mod⟩) (k:=?_)|refine Tc ?_|exact Tz)
  done
 | true =>
  obtain⟨F,m,rfl,rfl,hF,hm⟩:=sO e1;exact ik p q g h F m pt c N ep d x pz cz l px cx X a b hA hp hq hg hh hN hl hX ha hb hd hx hep hF hm e1
end
end Sx
end
end Go.Proofs.YtbhblpnjhkddbaaGreat
