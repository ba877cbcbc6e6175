/- Part 45 of the proof. -/
import Derived.Test.YtbhblpnjhkddbaaGreatE43
import Derived.Test.YtbhblpnjhkddbaaGreatE44
set_option linter.unusedSimpArgs false
set_option linter.unusedVariables false
set_option maxHeartbeats 8000000
namespace Go.Proofs.YtbhblpnjhkddbaaGreat
section
open Go Go.RowKit Go.BigFrame
namespace Sx
attribute [local irreducible] DQ DQS WC WO WX wd
theorem dI (l:List Nat) (pt:Option Addr) (c x:Nat) (hx:x<zc) (hl:∀ y∈l,y<zc) (hne:x ∉ l) (hn:l.length≤1000) :
  Fn Tryz.prog 176 [.slice pt l.length c,ze x] (RdF zb (.slice pt l.length c) l) (Is (.int .i64 (-1))):=by
 refine Fn.enter Tryz.func176 rfl rfl rfl ?_;intro w hw
 repeat (first|refine Tw ?_|(refine Tm ?_;intro _)|exact Tz)
 rename_i gX;refine WC.loopI (σ:=Nat) (fun i=>i≤l.length) (fun i=>[(0,.slice pt l.length c),(3,Sx.pt gX),(7,.int .i64 (l.length:Int)),(8,.int .i64 (i:Int))]) (fun i=>[⟨gX,24,zb x⟩]) (fun i=>l.length - i) 0 (fun i hi=>?_) (Nat.zero_le _)
 try dsimp only at hi ⊢
 by_cases hlt:i<l.length
 ·obtain⟨y,hy⟩ : ∃ y,l[i]?=some y:=⟨_,List.getElem?_eq_getElem hlt⟩;have hym:=List.mem_of_getElem? hy;have d:decide (x=y)=false:=decide_eq_false (fun e=>hne (e ▸ hym));obtain⟨b,o,rfl,_,hs⟩:=id hw |>.get hy
  have hadd2:IntKind.i64.wrap ((i:Int)+1)=((i+1:Nat):Int):=zn (by omega) (by omega) (by omega);have hcx:cut (l.flatMap zb) (o+i*4 - o) 4=zb y:=by rw[Nat.add_sub_cancel_left];exact yb (f:=zb) (k:=4) (fun _=>rfl) hy
  repeat (first|refine Tw ?_|(refine Tm ?_;intro _)|exact Tz)
  refine WC.dT rfl (by omega) ?_
  repeat (first|refine Tw ?_|(refine Tm ?_;intro _)|exact Tz)
  refine WC.adraw 6 (k:=?_)
  iterate 3 (refine DQ.auto (k:=?_))
  refine DQ.does (fun s _=>za (o':=o+i*4) rfl rfl hlt rfl) Dp.const ?_;refine DQ.does (fun s _=>zk (vs:=zb y) (hs:=hs) (hle:=Nat.le_add_right _ _) (hc:=hcx)) Dp.const ?_;refine DQ.does (fun s _=>vL rfl rfl hx (hl y hym) d) Dp.const ?_;refine DQ.anil (k:=?_);intro sx _
  repeat (first|refine Ta ?_|(refine Tm ?_;intro _)|refine WO.does (zg rfl rfl hadd2) ?_|refine Tc ?_|exact Tz)
  exact WX.metI (i+1) (hs:=⟨by show i+1≤l.length;omega,by show l.length - (i+1)<l.length - i;omega⟩)
 ·have hi2:i=l.length:=by omega
  subst hi2
  repeat (first|refine Tw ?_|(refine Tm ?_;intro _)|exact Tz)
  refine WC.dF rfl (by omega) ?_
  repeat (first|refine Tw ?_|(refine Tm ?_;intro _)|exact Tz)
theorem aaP (l:List Nat) (pt:Option Addr) (c x:Nat) (hx:x<zc) (hl:∀ y∈l,y<zc) (hne:x ∉ l) (hn:l.length≤1000) :
  Fn Tryz.prog 164 [.slice pt l.length c,ze x] (RdF zb (.slice pt l.length c) l) (Is (.bool false)):=by
 have hI:=dI l pt c x hx hl hne hn;refine Fn.enter Tryz.func164 rfl rfl rfl ?_;intro w hw
 repeat (first|refine Ta ?_|(refine Tm ?_;intro _)|refine WO.acallR (hc:=hI) (hR:=fun w1 hm=>hw.mod hm.mod) (k:=?_)|refine WO.does (vT rfl rfl (by decide)) ?_|refine Tc ?_|exact Tz)
theorem RdF.take {α:Type} {f:α→List Value} {pt:Option Addr} {n c c' : Nat} {xs:List α} {w:World} (h:RdF f (.slice pt n c) xs w) {i:Nat} (hi:i≤xs.length):RdF f (.slice pt i c') (xs.take i) w:=by
 obtain⟨p,c0,e,h⟩:=h;cases e;have hl:(xs.take i).length=i:=by rw[List.length_take];omega
 refine⟨pt,c',by rw[hl],?_⟩
 rcases h with ⟨h1,h2⟩|⟨b,o,e,hs⟩
 ·exact .inl ⟨h1,by rw[h2];simp⟩
 ·refine .inr ⟨b,o,e,?_⟩;have:xs.flatMap f=(xs.take i).flatMap f++(xs.drop i).flatMap f:=by rw[← List.flatMap_append,List.take_append_drop]
  rw[this] at hs;intro j v hv;exact hs j v (by
   rw[List.getElem?_append_left (by
    rcases Nat.lt_or_ge j ((xs.take i).flatMap f).length with h1|h1
    ·exact h1
    ·rw[List.getElem?_eq_none h1] at hv;cases hv)]
   exact hv)
section
variable (p q g h:Nat)
theorem cf (l:List Nat) (pt:Option Addr) (c:Nat) (hP:rl q l) (hcap:l.length≤c) (h1:1<q) (hq:q<zc) :
  Fn Tryz.prog 136 [yR p q g h,.slice pt l.length c] (RdF zb (.slice pt l.length c) l) (Is (.bool true)):=by
 have hlb:∀ y∈l,y<zc:=fun y hy=>Nat.lt_trans (hP.lt y hy) hq;have hM:=qu p q g h l pt c hlb (by have:=hP.len;omega) hq;rw[show uk q l=true by unfold uk;simp only[Bool.and_eq_true,decide_eq_true_eq,List.all_eq_true];exact⟨h1,fun y hy=>hP.lt y hy⟩] at hM;have hnn:0<l.length:=List.length_pos_iff.2 hP.ne;have hl7:=hP.len;refine Fn.enter Tryz.func136 rfl rfl rfl ?_;intro w hw
 repeat (first|refine Tw ?_|(refine Tm ?_;intro _)|exact Tz)
 rename_i gG;refine WC.loopI (σ:=Nat) (fun i=>i≤l.length) (fun i=>[(1,.slice pt l.length c),(2,Sx.pt gG),(7,.slice pt l.length c),(8,.int .i64 (l.length:Int)),(9,.int .i64 (i:Int))]) (fun i=>[⟨gG,26,vg p q g h⟩]) (fun i=>l.length - i) 0 (fun i hi=>?_) (Nat.zero_le _)
 try dsimp only at hi ⊢
 by_cases hlt:i<l.length
 ·obtain⟨x,hx⟩ : ∃ y,l[i]?=some y:=⟨_,List.getElem?_eq_getElem hlt⟩;have hxm:=List.mem_of_getElem? hx;have hxn:x ∉ l.take i:=fun hm=>by
   obtain⟨j,hj⟩:=List.getElem?_of_mem hm;have hji:j<i:=by
    have:j<(l.take i).length:=by
     rcases Nat.lt_or_ge j (l.take i).length with h|h
     ·exact h
     ·rw[List.getElem?_eq_none h] at hj;cases hj
    rw[List.length_take] at this;omega
   rw[List.getElem?_take,if_pos hji] at hj;obtain⟨k1,e1⟩:=List.getElem?_eq_some_iff.1 hj;obtain⟨k2,e2⟩:=List.getElem?_eq_some_iff.1 hx;exact List.pairwise_iff_getElem.1 hP.nd j i k1 k2 hji (e1.trans e2.symm)
  have hlt2:(l.take i).length=i:=by rw[List.length_take];omega
  have hC:=fun c'=>aaP (l.take i) pt c' x (hlb x hxm) (fun y hy=>hlb y (List.mem_of_mem_take hy)) hxn (by omega);rw[hlt2] at hC;obtain⟨b,o,rfl,_,hs⟩:=id hw |>.get hx
  have hadd2:IntKind.i64.wrap ((i:Int)+1)=((i+1:Nat):Int):=zn (by omega) (by omega) (by omega);have hcx:cut (l.flatMap zb) (o+i*4 - o) 4=zb x:=by rw[Nat.add_sub_cancel_left];exact yb (f:=zb) (k:=4) (fun _=>rfl) hx
  repeat (first|refine Tw ?_|(refine Tm ?_;intro _)|exact Tz)
  refine WC.dT rfl (by omega) ?_
  repeat (first|refine Ta ?_|(refine Tm ?_;intro _)|refine WO.does (za (o':=o+i*4) rfl rfl hlt rfl) ?_|refine WO.does (zk (vs:=zb x) (hs:=hs) (hle:=Nat.le_add_right _ _) (hc:=hcx)) ?_|refine Tc ?_|exact Tz)
  refine WC.adraw 5 (k:=?_)
  iterate 2 (refine DQ.auto (k:=?_))
  refine DQ.does (fun s _=>yq (h:=i) rfl rfl (by omega)) Dp.const ?_;refine DQ.auto (k:=?_);refine DQ.acallM (hc:=hC c) (hR:=fun w1 hm=>(hw.mod hm.mod).take (by omega)) (k:=?_);refine DQ.anil (k:=?_);intro sx _
  repeat (first|refine Ta ?_|(refine Tm ?_;intro _)|refine WO.does (zg rfl rfl hadd2) ?_|refine Tc ?_|exact Tz)
  exact WX.metI (i+1) (hs:=⟨by show i+1≤l.length;omega,by show l.length - (i+1)<l.length - i;omega⟩)
 ·have hi2:i=l.length:=by omega
  subst hi2
  repeat (first|refine Tw ?_|(refine Tm ?_;intro _)|exact Tz)
  refine WC.dF rfl (by omega) ?_
  repeat (first|refine Ta ?_|(refine Tm ?_;intro _)|refine WO.does (zY rfl rfl (by omega)) ?_|refine WO.acallR (hc:=hM) (hR:=fun w1 hm=>hw.mod hm.mod) (k:=?_)|refine Tc ?_|exact Tz)
end
def wtE (q:Nat) (l:List Nat) (i:Nat):Int:=(List.range i).foldl (fun e j=>kE e (iE (prM q 1 (dif q l j (l.getD j 0) l.length)) q)) 0
theorem lg (q:Nat) (l:List Nat) (i:Nat):wtE q l (i+1)=kE (wtE q l i) (iE (prM q 1 (dif q l i (l.getD i 0) l.length)) q):=by unfold wtE;rw[List.range_succ,List.foldl_append];rfl
def aaF (e:Int) (n:Nat) (cs:List Value):Value→List Ent→Prop:=fun v N=>(e≠0∧v=.tuple #[.slice none 0 0,.int .i64 7]∧N=[])∨(e=0∧∃ g,v=.tuple #[.slice (some ⟨g,0,none⟩) n n,.int .i64 0]∧N=[⟨g,24,cs⟩])
section
variable (p q g h:Nat)
theorem nu (l:List Nat) (pt:Option Addr) (c x:Nat) (hP:rl q l) (hcap:l.length≤c) (h1:1<q) (hx:x<q) (hq:q<zc) :
  Fn Tryz.prog 88 [yR p q g h,.slice pt l.length c,ze x] (RdF zb (.slice pt l.length c) l) (aaF (wtE q l l.length) l.length ((wts q l x).flatMap zb)):=by
 have hPt:=cf p q g h l pt c hP hcap h1 hq;have hM:=fun b=>qu p q g h [x] (some ⟨b,0,none⟩) 1 (by intro y hy;rw[List.mem_singleton.1 hy];exact Nat.lt_trans hx hq) (by show 1≤1099511627776;omega) hq;rw[show uk q [x]=true by unfold uk;simp[h1,hx]] at hM;have hl7:=hP.len;have hlt':=hP.lt;clear hP;refine Fn.enter Tryz.func88 rfl rfl rfl ?_;intro w hw
 repeat (first|refine Ta ?_|(refine Tm ?_;intro _)|(refine WO.makes (zd (cs:=zb x) rfl (by decide) rfl) ?_;intro _)|refine WO.acallR (hc:=hPt) (hR:=fun w1 hm=>hw.mod hm.mod) (k:=?_)|refine WO.acallR (hc:=hM _) (hR:=fun w1 hm=>RdF.seg (f:=zb) (xs:=[x]) (r:=[]) (Hs.sg hm)) (k:=?_)|refine Tc ?_|exact Tz)
 rename_i gG gX gT;refine WC.adraw 8 (k:=?_)
 iterate 2 (refine DQ.auto (k:=?_))
 refine DQ.autoM (k:=?_)
 iterate 2 (refine DQ.auto (k:=?_))
 refine DQ.makes (vf:=fun _ g=>.slice (some ⟨g,0,none⟩) l.length l.length) (t:=24) (cs:=fun _=>mkz l.length (zb 0)) (fun s _=>zM (l:=l.length) (c:=l.length) rfl rfl (Nat.le_refl _) (by omega) (by omega)) Dp.const Dp.const ?_
 iterate 2 (refine DQ.auto (k:=?_))
 refine DQ.anil (k:=?_);intro sx _;generalize sx 2 0=gF;generalize sx 5 0=gO;clear sx;refine WO.mine (fun hmn=>?_);have hgF:w.heap.size≤gF:=(hmn _ (List.Mem.tail _ (List.Mem.head _))).resolve_right (by simp);clear hmn;have hout:∀ b o,pt=some ⟨b,o,none⟩→l≠[]→b ∉ [gF]:=fun b o e hne=>by
  subst e;have:=RdF.lt (k:=3) (f:=zb) (fun _=>rfl) hw hne;simp;omega
 repeat (first|refine Tw ?_|(refine Tm ?_;intro _)|exact Tz)
 refine WC.loopI (σ:=Nat) (fun i=>i≤l.length) (fun i=>[(1,.slice pt l.length c),(5,Sx.pt gX),(8,Sx.pt gF),(9,.slice (some ⟨gO,0,none⟩) l.length l.length),(29,.int .i64 (l.length:Int)),(30,.int .i64 (i:Int))]) (fun i=>[⟨gO,24,((List.range i).map (wtN q l x)).flatMap zb++mkz (l.length - i) (zb 0)⟩,⟨gF,158,fdC p q g h (wtE q l i)⟩,⟨gX,24,zb x⟩]) (fun i=>l.length - i) 0 (fun i hi=>?_) (Nat.zero_le _)
 try dsimp only at hi ⊢
 by_cases hlt:i<l.length
 ·obtain⟨li,hli⟩ : ∃ y,l[i]?=some y:=⟨_,List.getElem?_eq_getElem hlt⟩;have hld:l.getD i 0=li:=by simp[List.getD,hli]
  have hadd2:IntKind.i64.wrap ((i:Int)+1)=((i+1:Nat):Int):=zn (by omega) (by omega) (by omega);have hWe:=dE p q g h gF l pt c i li (wtE q l i) h1 hlt' (by omega) hli hq;rw[show kE (wtE q l i) (iE (prM q 1 (dif q l i li l.length)) q)=wtE q l (i+1) by rw[lg,hld],show vU (prM q 1 (dif q l i li l.length)) q=wtI q l i by unfold wtI;rw[hld]] at hWe;have hOth:=m6 p q g h gF l pt c i x (wtE q l (i+1)) h1 hlt' hx (by omega) (by omega) hq;have hGa:=fun ptD cD=>oC p q g h gF (dif q l i x l.length) ptD cD (wtI q l i) (wtE q l (i+1)) h1 (ad h1) (bS (by omega)) (by have:=mE (q:=q) (l:=l) (i:=i) (x:=x) (k:=l.length);omega) hq;rw[show prM q (wtI q l i) (dif q l i x l.length)=wtN q l x i from rfl] at hGa;have hov:over (((List.range i).map (wtN q l x)).flatMap zb++mkz (l.length - i) (zb 0)) (0+i*4) (zb (wtN q l x i))=((List.range (i+1)).map (wtN q l x)).flatMap zb++mkz (l.length - (i+1)) (zb 0):=uK zH rfl hlt;have hln:Nat.ble (0+i*4+4) (((List.range i).map (wtN q l x)).flatMap zb++mkz (l.length - i) (zb 0)).length=true:=tE zH rfl hlt;generalize hW2:((List.range (i+1)).map (wtN q l x)).flatMap zb++mkz (l.length - (i+1)) (zb 0)=W2 at *;generalize ((List.range i).map (wtN q l x)).flatMap zb++mkz (l.length - i) (zb 0)=W1 at *;generalize wtN q l x i=wn at *;generalize wtI q l i=wi at *;generalize hE2:wtE q l (i+1)=E2 at *;generalize wtE q l i=E1 at *;generalize dif q l i x l.length=D at *
  repeat (first|refine Tw ?_|(refine Tm ?_;intro _)|exact Tz)
  refine WC.dT rfl (by omega) ?_
  repeat (first|refine Tw ?_|(refine Tm ?_;intro _)|exact Tz)
  refine WC.mains [5,10,13,14,15] [(0,.slice (some ⟨gO,0,none⟩) l.length l.length),(1,.int .i64 (i:Int)),(2,Sx.pt gF),(3,.slice pt l.length c),(4,.int .i64 (i:Int)),(6,Sx.pt gF),(7,.slice pt l.length c),(8,.int .i64 (i:Int)),(9,ze x),(11,Sx.pt gF),(12,.func (.func 101) #[Sx.pt gF] #[])] (by decide) ?_;refine WM.with [⟨gX,24,zb x⟩] (by kernel_rfl) (Tls.auto (Tls.auto (Tls.auto (Tls.auto (Tls.auto (Tls.auto (Tls.auto (Tls.auto (Tls.auto (Tls.auto (Tls.auto Tls.nil))))))))))) (fun hc hT=>?_)
  refine WM.step (m:=5) rfl rfl hc hT ?_;refine WO.callM rfl hWe (by repeat (first|exact Rp.here|apply Rp.there)) (fun w1 hm=>⟨hw.mod hm.mod,hout⟩) (by decide) ?_ rfl rfl;refine WO.nil (WX.wm [(38,ze wi)] ?_);refine WM.step (m:=10) rfl rfl hc hT ?_;refine WO.callsL (hc:=hOth) (hp:=.cons Pk.a .nil) (fun w1 hm=>⟨hw.mod hm.mod,hout⟩) (fun v N hv=>?_);obtain⟨gD,cD,rD,rfl,rfl⟩:=hv;obtain⟨ptD,cD',hv,hpt⟩:=nc gD cD D.length;rw[hv,List.cons_append];refine WO.permL (List.Perm.cons _ List.perm_append_comm) ?_;simp only[List.cons_append,List.nil_append];refine WO.nil (WX.wm [(43,.slice ptD D.length cD')] ?_);refine WM.step (m:=13) rfl rfl hc hT ?_;refine WO.ndp (fun hnd=>?_);refine WO.callM rfl (hGa ptD cD') (by repeat (first|exact Rp.here|apply Rp.there)) (fun w1 hm=>aby hm hpt (fun h=>by rw[py h];exact .there (.there (.there .here))) (fun h=>by rw[py h] at hnd;simp at hnd ⊢;exact fun e=>hnd.1.2.2 e.symm)) (by decide) ?_ rfl rfl;refine WO.nil (WX.wm [(46,ze wn)] ?_);refine WM.step (m:=14) rfl rfl hc hT ?_;refine WO.does (za (o':=0+i*4) rfl rfl hlt rfl) ?_;refine WO.nil (WX.wm [(47,.pointer (some ⟨gO,0+i*4,none⟩))] ?_);refine WM.step (m:=15) rfl rfl hc hT ?_;refine WO.stores (zw (vs:=zb wn) (cs':=W2) (hc:=hov) (hle:=hln)) ?_;refine WO.nil (WX.wm [] ?_);refine WM.fin (m:=15) hc rfl rfl (by rfl) ?_;clear hc hT
  repeat (first|refine Ta ?_|(refine Tm ?_;intro _)|refine WO.does (zg rfl rfl hadd2) ?_|refine Tc ?_|exact Tz)
  subst hW2 hE2;exact WX.metI (i+1) (hs:=⟨by show i+1≤l.length;omega,by show l.length - (i+1)<l.length - i;omega⟩)
 ·have hi2:i=l.length:=by omega
  subst hi2;rw[Nat.sub_self,show mkz 0 (zb 0)=[] from rfl,List.append_nil];rw[show (List.range l.length).map (wtN q l x)=wts q l x from rfl];generalize wts q l x=ws at *
  repeat (first|refine Tw ?_|(refine Tm ?_;intro _)|exact Tz)
  refine WC.dF rfl (by omega) ?_
  by_cases he:wtE q l l.length=0
  ·repeat (first|refine Ta ?_|(refine Tm ?_;intro _)|refine WO.does (zu rfl rfl he) ?_|refine Tc ?_|exact Tz)
   exact WX.ret2 rfl (by exact zr rfl) (by exact zr rfl) [⟨gO,24,ws.flatMap zb⟩] (Lle.c Lle.nil) (.inr ⟨he,gO,rfl,rfl⟩)
  ·repeat (first|refine Ta ?_|(refine Tm ?_;intro _)|refine WO.does (ym rfl rfl he) ?_|refine Tc ?_|exact Tz)
   exact WX.ret2 rfl (by exact zr rfl) (by exact zr rfl) [] Lle.nil (.inl ⟨he,rfl,rfl⟩)
end
theorem abX {q:Nat} {ds:List Nat}:iE (prM q 1 ds) q=if et q ds=true then 0 else 7:=by
 unfold iE
 by_cases h:et q ds=true
 ·rw[if_pos h,if_pos ((pX q ds 1).2 ⟨Nat.gcd_one_left q,h⟩)]
 ·rw[if_neg h,if_neg (fun e=>h ((pX q ds 1).1 e).2)]
theorem cm {q:Nat} {l:List Nat} {i:Nat} (h:wtE q l i=0):wtE q l (i+1)=if et q (dif q l i (l.getD i 0) l.length)=true then 0 else 7:=by
 rw[lg,h,abX];rfl
abbrev mX (k:Nat):List Value:=[.int .i64 (k:Int)]
theorem kG {l:List Nat} {i x o:Nat} (h:l[i]?=some x):(l.flatMap mX)[o+i*1 - o]?=some (.int .i64 (x:Int)):=by
 rw[Nat.add_sub_cancel_left,Nat.mul_one];have e:l.flatMap mX=l.map (fun k:Nat=>Value.int .i64 (k:Int)):=by
  induction l generalizing i with
  | nil=>rfl
  | cons a r ih =>
   rw[List.flatMap_cons,List.map_cons];have:r.flatMap mX=r.map (fun k:Nat=>Value.int .i64 (k:Int)):=by
    clear ih h
    induction r with
    | nil=>rfl
    | cons a r ih=>rw[List.flatMap_cons,List.map_cons,ih];rfl
   rw[this];rfl
 rw[e,List.getElem?_map,h];rfl
theorem d9 (l:List Nat) (pt:Option Addr) (c x:Nat) (hne:x ∉ l) (hn:l.length≤1000) :
  Fn Tryz.prog 135 [.slice pt l.length c,.int .i64 (x:Int)] (RdF mX (.slice pt l.length c) l) (Is (.int .i64 (-1))):=by
 refine Fn.enter Tryz.func135 rfl rfl rfl ?_;intro w hw
 repeat (first|refine Tw ?_|(refine Tm ?_;intro _)|exact Tz)
 refine WC.loopI (σ:=Nat) (fun i=>i≤l.length) (fun i=>[(0,.slice pt l.length c),(1,.int .i64 (x:Int)),(7,.int .i64 (l.length:Int)),(8,.int .i64 (i:Int))]) (fun i=>[]) (fun i=>l.length - i) 0 (fun i hi=>?_) (Nat.zero_le _)
 try dsimp only at hi ⊢
 by_cases hlt:i<l.length
 ·obtain⟨y,hy⟩ : ∃ y,l[i]?=some y:=⟨_,List.getElem?_eq_getElem hlt⟩;have hym:=List.mem_of_getElem? hy;have hxy:(x:Int)≠(y:Int):=fun e=>hne ((Int.ofNat_inj.1 e) ▸ hym);obtain⟨b,o,rfl,_,hs⟩:=id hw |>.get hy
  have hadd2:IntKind.i64.wrap ((i:Int)+1)=((i+1:Nat):Int):=zn (by omega) (by omega) (by omega);have hcx:=kG (o:=o) hy
  repeat (first|refine Tw ?_|(refine Tm ?_;intro _)|exact Tz)
  refine WC.dT rfl (by omega) ?_
  repeat (first|refine WO.does (za (o':=o+i*1) rfl rfl hlt rfl) ?_|refine WO.does (zi (hs:=hs) (hle:=Nat.le_add_right _ _) (hc:=hcx)) ?_|refine WO.does (vk rfl rfl hxy) ?_|refine WO.does (zg rfl rfl hadd2) ?_|refine Ta ?_|(refine Tm ?_;intro _)|refine Tc ?_|exact Tz)
  exact WX.metI (i+1) (hs:=⟨by show i+1≤l.length;omega,by show l.length - (i+1)<l.length - i;omega⟩)
 ·have hi2:i=l.length:=by omega
  subst hi2
  repeat (first|refine Tw ?_|(refine Tm ?_;intro _)|exact Tz)
  refine WC.dF rfl (by omega) ?_
  repeat (first|refine Tw ?_|(refine Tm ?_;intro _)|exact Tz)
theorem aaJ (l:List Nat) (pt:Option Addr) (c x:Nat) (hne:x ∉ l) (hn:l.length≤1000) :
  Fn Tryz.prog 86 [.slice pt l.length c,.int .i64 (x:Int)] (RdF mX (.slice pt l.length c) l) (Is (.bool false)):=by
 have hI:=d9 l pt c x hne hn;refine Fn.enter Tryz.func86 rfl rfl rfl ?_;intro w hw
 repeat (first|refine Ta ?_|(refine Tm ?_;intro _)|refine WO.acallR (hc:=hI) (hR:=fun w1 hm=>hw.mod hm.mod) (k:=?_)|refine WO.does (vT rfl rfl (by decide)) ?_|refine Tc ?_|exact Tz)
theorem abp {q:Nat} {l:List Nat} {x:Nat} (h1:1<q):∀ v∈wts q l x,v<q:=fun v hv=>by
 obtain⟨i,_,rfl⟩:=List.mem_map.1 hv;exact abF h1
theorem iP {q:Nat} {l:List Nat} {x:Nat}:(wts q l x).length=l.length:=by simp[wts]
section
variable (p q g h:Nat)
theorem cO (ks zs:List Nat) (pa pz:Option Addr) (cA cZ i a z gA gG gP:Nat) (ha:ks[i]?=some a) (hz:zs[i]?=some z) (hnd:ks.Nodup) (ha7:a<7) (hcap:ks.length≤cA) (hn:ks.length≤7) (hm:yD p z=true) (hzb:z<zc) (haq:a+1<q) (hq:q<zc) (hp:p<zc) :
  Fn Tryz.prog 85 ([.int .i64 (i:Int)]++[pt gA,pt gG,pt gP])
   (fun w=>Seg w gA 0 [.slice pa ks.length cA]∧Seg w gG 0 (vg p q g h)∧Seg w gP 0 [.slice pz zs.length cZ]∧RdF mX (.slice pa ks.length cA) ks w∧RdF zb (.slice pz zs.length cZ) zs w) (Is (.tuple #[ze (a+1),.int .i64 0])):=by
 have hia:=(List.getElem?_eq_some_iff.1 ha).1;have hiz:=(List.getElem?_eq_some_iff.1 hz).1;have hxn:a ∉ ks.take i:=fun hm=>by
  obtain⟨j,hj⟩:=List.getElem?_of_mem hm;have hji:j<i:=by
   have:j<(ks.take i).length:=by
    rcases Nat.lt_or_ge j (ks.take i).length with h|h
    ·exact h
    ·rw[List.getElem?_eq_none h] at hj;cases hj
   rw[List.length_take] at this;omega
  rw[List.getElem?_take,if_pos hji] at hj;obtain⟨k1,e1⟩:=List.getElem?_eq_some_iff.1 hj;obtain⟨k2,e2⟩:=List.getElem?_eq_some_iff.1 ha;exact List.pairwise_iff_getElem.1 hnd j i k1 k2 hji (e1.trans e2.symm)
 have hlt2:(ks.take i).length=i:=by rw[List.length_take];omega
 have hC:=fun c'=>aaJ (ks.take i) pa c' a hxn (by omega);rw[hlt2] at hC;have hE:=vo p q g h z 0 hzb (by decide) hp;rw[hm] at hE;simp only[rE,okV,okE,if_true] at hE;have h1:=lH a (by omega);have h2:=ik p q g h (a+1) (by omega) hq;rw[pL q (a+1) (by omega),Nat.mod_eq_of_lt haq] at h2;have hN:=iR;generalize z ^ 0%p=Z0 at *;refine Fn.enter Tryz.func85 rfl rfl rfl ?_;intro w hw;obtain⟨wA,wG,wP,wL,wZ⟩:=hw;obtain⟨bA,oA,e,_,hsA⟩:=id wL |>.get ha
 subst e;obtain⟨bZ,oZ,e,_,hsZ⟩:=id wZ |>.get hz
 subst e;have hca:=kG (o:=oA) ha;have hcz:cut (zs.flatMap zb) (oZ+i*4 - oZ) 4=zb z:=by rw[Nat.add_sub_cancel_left];exact yb (f:=zb) (k:=4) (fun _=>rfl) hz
 repeat (first|refine Tw ?_|(refine Tm ?_;intro _)|exact Tz)
 refine WC.adraw 22 (k:=?_)
 iterate 22 (first|refine DQ.does (fun s _=>zi (hs:=wA) (hle:=Nat.zero_le _)) Dp.const ?_|refine DQ.does (fun s _=>za (o':=oA+i*1) rfl rfl hia rfl) Dp.const ?_|refine DQ.does (fun s _=>zi (hs:=hsA) (hle:=Nat.le_add_right _ _) (hc:=hca)) Dp.const ?_|refine DQ.does (fun s _=>zT rfl rfl (by omega)) Dp.const ?_|refine DQ.does (fun s _=>vT rfl rfl (by omega)) Dp.const ?_|refine DQ.does (fun s _=>yq (h:=i) rfl rfl (by omega)) Dp.const ?_|refine DQ.acallM (hc:=hC cA) (hR:=fun w1 hm=>(wL.mod hm.mod).take (by omega)) (k:=?_)|refine Da ?_|refine Dc ?_)
 refine DQ.anil (k:=?_);intro sx _
 repeat (first|refine Tw ?_|(refine Tm ?_;intro _)|exact Tz)
 refine WC.adrawF [9] 11 (k:=?_)
 repeat (first|refine Da ?_|refine DQ.does (fun s _=>zk (hs:=wG) (hle:=Nat.le_refl _) (vs:=vg p q g h)) Dp.const ?_|refine DQ.does (fun s _=>zi (hs:=wP) (hle:=Nat.zero_le _)) Dp.const ?_|refine DQ.does (fun s _=>za (o':=oZ+i*4) rfl rfl hiz rfl) Dp.const ?_|refine DQ.does (fun s _=>zk (vs:=zb z) (hs:=hsZ) (hle:=Nat.le_add_right _ _) (hc:=hcz)) Dp.const ?_|refine DQ.acall (hc:=hE) (k:=?_)|refine Df ?_)
 refine DQ.anil (k:=?_);intro sx _
 repeat (first|refine Tw ?_|(refine Tm ?_;intro _)|exact Tz)
 refine WC.adrawF [9] 10 (k:=?_)
 repeat (first|refine Da ?_|refine DQ.does (fun s _=>zk (hs:=wG) (hle:=Nat.le_refl _) (vs:=vg p q g h)) Dp.const ?_|refine DQ.does (fun s _=>zi (hs:=wA) (hle:=Nat.zero_le _)) Dp.const ?_|refine DQ.does (fun s _=>za (o':=oA+i*1) rfl rfl hia rfl) Dp.const ?_|refine DQ.does (fun s _=>zi (hs:=hsA) (hle:=Nat.le_add_right _ _) (hc:=hca)) Dp.const ?_|refine DQ.acall (hc:=hN) (k:=?_)|refine DQ.acallV (hc:=h1) (k:=?_)|refine DQ.acall (hc:=h2) (k:=?_)|refine Df ?_)
 refine DQ.anil (k:=?_);intro sx _
 repeat (first|refine Tw ?_|(refine Tm ?_;intro _)|exact Tz)
 done
end
theorem RdF.own {α:Type} {f:α→List Value} {xs:List α} {w:World} {g n c:Nat} (hs:Seg w g 0 (xs.flatMap f)) (hn:xs.length=n):RdF f (.slice (some ⟨g,0,none⟩) n c) xs w:=by
 subst hn;exact⟨_,_,rfl,.inr ⟨g,0,rfl,hs⟩⟩
def rsN (p q:Nat) (ps zs:List Nat) (j:Nat):Nat:=prD p zs (wts q ps (q - (j+1)))
def rsL (p q:Nat) (ps zs:List Nat) (m:Nat):List Nat:=(List.range m).map (rsN p q ps zs)
section
variable (p q g h:Nat)
section
variable (ps zs:List Nat) (pe pz:Option Addr) (cE cZ j gG gE gP:Nat)
theorem d8 (hP:rl q ps) (hcap:ps.length≤cE) (hz:aaY p zs) (hl:zs.length=ps.length) (hj:j+1<q) (hj2:j<900) (hp:p<zc) (hq:q<zc) (h1:1<p) (he:wtE q ps ps.length=0) :
  Fn Tryz.prog 87 ([.int .i64 (j:Int)]++[pt gG,pt gE,pt gP])
   (fun w=>Seg w gG 0 (vg p q g h)∧Seg w gE 0 [.slice pe ps.length cE]∧Seg w gP 0 [.slice pz zs.length cZ]∧RdF zb (.slice pe ps.length cE) ps w∧RdF zb (.slice pz zs.length cZ) zs w) (Is (.tuple #[ze (rsN p q ps zs j),.int .i64 0])):=by
 have h2:=tS j (by omega);have h3:=nS p q g h (j+1) (by omega) (by omega) hj hq;have hW0:=nu p q g h ps pe cE (q - (j+1)) hP hcap (by omega) (by omega) hq;have hW:Fn Tryz.prog 88 [yR p q g h,.slice pe ps.length cE,ze (q - (j+1))] (RdF zb (.slice pe ps.length cE) ps) (Ex (fun s=>.tuple #[.slice (some ⟨s 0,0,none⟩) ps.length ps.length,.int .i64 0]) (fun s=>[⟨s 0,24,(wts q ps (q - (j+1))).flatMap zb⟩]) (fun _=>True)):=by
  refine hW0.weak (fun w hw=>hw) (fun v N hv=>?_)
  rcases hv with ⟨h,_⟩|⟨_,g,h,h'⟩
  ·exact absurd he h
  ·exact⟨fun _=>g,h,h',trivial⟩
 clear hW0;have hPr:=fun pn=>jz p q g h hp h1 zs (wts q ps (q - (j+1))) hz (fun v hv=>Nat.lt_trans (abp (by omega) v hv) hq) (by rw[iP,hl]) (fun e=>hP.ne (List.length_eq_zero_iff.1 (by rw[← hl,e];rfl))) pz pn cZ ps.length (by have:=hP.len;omega);rw[show prD p zs (wts q ps (q - (j+1)))=rsN p q ps zs j from rfl] at hPr;have hwl:(wts q ps (q - (j+1))).length=ps.length:=iP;generalize hws:wts q ps (q - (j+1))=ws at *;generalize rsN p q ps zs j=V at *;have hN:=rU;refine Fn.enter Tryz.func87 rfl rfl rfl ?_;intro w hw;obtain⟨wG,wE,wP,wL,wZ⟩:=hw
 repeat (first|refine Tw ?_|(refine Tm ?_;intro _)|exact Tz)
 refine WC.adraw 14 (k:=?_)
 iterate 8 (first|refine DQ.does (fun s _=>zk (hs:=wG) (hle:=Nat.le_refl _) (vs:=vg p q g h)) Dp.const ?_|refine DQ.does (fun s _=>zi (hs:=wE) (hle:=Nat.zero_le _)) Dp.const ?_|refine DQ.acallV (hc:=h2) (k:=?_)|refine DQ.acall (hc:=hN) (k:=?_)|refine DQ.acall (hc:=h3) (k:=?_)|refine Da ?_|refine Dc ?_)
 refine DQ.callsE (fs:=fun _=>[]) (cs:=fun _=>[]) (R:=fun _=>RdF zb (.slice pe ps.length cE) ps) (vf:=fun _ x=>.tuple #[.slice (some ⟨x 0,0,none⟩) ps.length ps.length,.int .i64 0]) (Nf:=fun _ x=>[⟨x 0,24,ws.flatMap zb⟩]) (S:=fun _ _=>True) (fun _=>[]) (fun _=>.nil)
  (fun _=>⟨fun _=>0,trivial⟩) (fun _ _=>hW) (fun _=>rfl) (fun _=>rfl) (fun _=>by simp) (fun _ _ w hm=>wL.mod hm.mod) Dp.const Dp.const Dp.const ?_
 try dsimp only[List.map_cons,List.map_nil,List.cons_append,List.nil_append]
 iterate 5 (refine DQ.auto (k:=?_))
 refine DQ.anil (k:=?_);intro sx _;generalize sx 8 0=g0;rw[hl] at hPr;have wP' : Seg w gP 0 [.slice pz ps.length cZ]:=by rw[← hl];exact wP
 have wZ' : RdF zb (.slice pz ps.length cZ) zs w:=by rw[← hl];exact wZ
 clear wP wZ
 repeat (first|refine WO.does (zk (hs:=wG) (hle:=Nat.le_refl _) (vs:=vg p q g h)) ?_|refine WO.does (zi (hs:=wP') (hle:=Nat.zero_le _)) ?_|refine Ta ?_|(refine Tm ?_;intro _)|refine WO.acallR (hc:=hPr _) (hR:=fun w1 hm=>⟨wZ'.mod hm.mod,RdF.own (Hs.sg hm) hwl⟩) (k:=?_)|refine Tc ?_|exact Tz)
 done
theorem iX (hP:rl q ps) (hcap:ps.length≤cE) (hj:j+1<q) (hj2:j<900) (hq:q<zc) (he:wtE q ps ps.length≠0) :
  Fn Tryz.prog 87 ([.int .i64 (j:Int)]++[pt gG,pt gE,pt gP])
   (fun w=>Seg w gG 0 (vg p q g h)∧Seg w gE 0 [.slice pe ps.length cE]∧Seg w gP 0 [.slice pz zs.length cZ]∧RdF zb (.slice pe ps.length cE) ps w∧RdF zb (.slice pz zs.length cZ) zs w) (Is (.tuple #[ze 0,.int .i64 7])):=by
 have h2:=tS j (by omega);have h3:=nS p q g h (j+1) (by omega) (by omega) hj hq;have hW0:=nu p q g h ps pe cE (q - (j+1)) hP hcap (by omega) (by omega) hq;have hW:Fn Tryz.prog 88 [yR p q g h,.slice pe ps.length cE,ze (q - (j+1))] (RdF zb (.slice pe ps.length cE) ps) (Is (.tuple #[.slice none 0 0,.int .i64 7])):=by
  refine hW0.weak (fun w hw=>hw) (fun v N hv=>?_)
  rcases hv with ⟨_,h,_⟩|⟨h,_⟩
  ·exact h
  ·exact absurd h he
 clear hW0;have hN:=rU;refine Fn.enter Tryz.func87 rfl rfl rfl ?_;intro w hw;obtain⟨wG,wE,wP,wL,wZ⟩:=hw
 repeat (first|refine Tw ?_|(refine Tm ?_;intro _)|exact Tz)
 refine WC.adraw 14 (k:=?_)
 iterate 14 (first|refine DQ.does (fun s _=>zk (hs:=wG) (hle:=Nat.le_refl _) (vs:=vg p q g h)) Dp.const ?_|refine DQ.does (fun s _=>zi (hs:=wE) (hle:=Nat.zero_le _)) Dp.const ?_|refine DQ.acallV (hc:=h2) (k:=?_)|refine Da ?_|refine DQ.acall (hc:=hN) (k:=?_)|refine DQ.acall (hc:=h3) (k:=?_)|refine DQ.acallM (hc:=hW) (hR:=fun w1 hm=>wL.mod hm.mod) (k:=?_)|refine Dc ?_)
 refine DQ.anil (k:=?_);intro sx _
 repeat (first|refine Tw ?_|(refine Tm ?_;intro _)|exact Tz)
 done
end
section
variable (ks zs:List Nat) (pa pz:Option Addr) (cA cZ m:Nat)
theorem rJ (hne:ks≠[]) (hnd:ks.Nodup) (hk:∀ k∈ks,k<7∧k+1<q) (hn:ks.length≤7):rl q (ks.map (· + 1)) where
 ne:=by simpa using hne
 lt:=fun y hy=>by obtain⟨k,h,rfl⟩:=List.mem_map.1 hy;exact (hk k h).2
 nd:=by
  rw[List.Nodup,List.pairwise_map];exact hnd.imp (fun h e=>h (by omega))
 len:=by simpa using hn
theorem ji (ks:List Nat):(List.range ks.length).map (fun i=>ks.getD i 0+1)=ks.map (· + 1):=by
 apply List.ext_getElem
 ·simp
 ·intro i h1 h2;simp only[List.length_map,List.length_range] at h1;simp[List.getD,h1]
theorem aar (hne:ks≠[]) (hnd:ks.Nodup) (hk:∀ k∈ks,k<7∧k+1<q) (hn:ks.length≤7) (hcap:ks.length≤cA) (hz:aaY p zs) (hl:zs.length=ks.length) (hm1:1≤m) (hm3:m≤3) (hmq:m<q) (hp:p<zc) (hq:q<zc) (h1:1<p) :
  Fn Tryz.prog 41 [yR p q g h,.slice pa ks.length cA,.slice pz zs.length cZ,.int .i64 (m:Int)] (fun w=>RdF mX (.slice pa ks.length cA) ks w∧RdF zb (.slice pz zs.length cZ) zs w)
   (aaF (wtE q (ks.map (· + 1)) (ks.map (· + 1)).length) m ((rsL p q (ks.map (· + 1)) zs m).flatMap zb)):=by
 have hPt:=rJ q ks hne hnd hk hn;have hnn:0<ks.length:=List.length_pos_iff.2 hne
 have hC:=fun gA gG gP=>kb (f:=85) [pt gA,pt gG,pt gP] (fun i=>ks.getD i 0+1) ks.length (fun w=>Seg w gA 0 [.slice pa ks.length cA]∧Seg w gG 0 (vg p q g h)∧Seg w gP 0 [.slice pz zs.length cZ]∧RdF mX (.slice pa ks.length cA) ks w∧RdF zb (.slice pz zs.length cZ) zs w)
  (fun w w' ⟨a,b,d,e,f⟩ hb=>⟨zL.seg w w' a hb,zL.seg w w' b hb,zL.seg w w' d hb,e.mod (.of_below hb _),f.mod (.of_below hb _)⟩) (by omega) (fun i hi=>by
   have hik:ks[i]?=some (ks.getD i 0):=by rw[List.getElem?_eq_getElem hi];simp[List.getD,hi]
   obtain⟨z,hiz⟩ : ∃ z,zs[i]?=some z:=⟨_,List.getElem?_eq_getElem (by omega)⟩;have hkm:=hk _ (List.mem_of_getElem? hik);have hzm:=List.mem_of_getElem? hiz;exact cO p q g h ks zs pa pz cA cZ i _ z gA gG gP hik hiz hnd hkm.1 hcap hn (hz.may z hzm) (hz.lt z hzm) hkm.2 hq hp)
 rw[ji] at hC;have hpl:(ks.map (· + 1)).length=ks.length:=by simp
 have hneq:((zs.length:Nat):Int)=((ks.length:Nat):Int):=by rw[hl]
 generalize hps:ks.map (· + 1)=ps at *;have hlp:zs.length=ps.length:=by omega
 by_cases he:wtE q ps ps.length=0
 ·have hD:=fun gG gE gP pe=>kb (f:=87) [pt gG,pt gE,pt gP] (rsN p q ps zs) m (fun w=>Seg w gG 0 (vg p q g h)∧Seg w gE 0 [.slice pe ps.length ks.length]∧Seg w gP 0 [.slice pz zs.length cZ]∧RdF zb (.slice pe ps.length ks.length) ps w∧RdF zb (.slice pz zs.length cZ) zs w)
   (fun w w' ⟨a,b,d,e,f⟩ hb=>⟨zL.seg w w' a hb,zL.seg w w' b hb,zL.seg w w' d hb,e.mod (.of_below hb _),f.mod (.of_below hb _)⟩) (by omega) (fun j hj=>d8 p q g h ps zs pe pz ks.length cZ j gG gE gP hPt (by omega) hz hlp (by omega) (by omega) hp hq h1 he)
  rw[show (List.range m).map (rsN p q ps zs)=rsL p q ps zs m from rfl] at hD;generalize rsL p q ps zs m=rs at *;rw[hpl] at hD;refine Fn.enter Tryz.func41 rfl rfl rfl ?_;intro w hw;obtain⟨wA,wZ⟩:=hw
  repeat (first|refine WO.does (zT rfl rfl (by omega)) ?_|refine WO.does (zx rfl rfl (by omega)) ?_|refine WO.does (vk rfl rfl (by omega)) ?_|refine WO.does (zu rfl rfl hneq) ?_|refine Ta ?_|(refine Tm ?_;intro _)|refine WO.does (zZ rfl rfl) ?_|refine WO.acallX (hc:=hC _ _ _) (hR:=fun w1 hm=>⟨Hs.sg hm,Hs.sg hm,Hs.sg hm,wA.mod hm.mod,wZ.mod hm.mod⟩) (k:=fun s _=>?_)|refine Tc ?_|exact Tz)
  generalize s 0=gT
  repeat (first|refine Ta ?_|(refine Tm ?_;intro _)|refine WO.does (zZ rfl rfl) ?_|refine WO.acallX (hc:=hD _ _ _ _) (hR:=fun w1 hm=>⟨Hs.sg hm,Hs.sg hm,Hs.sg hm,RdF.own (Hs.sg hm) hpl,wZ.mod hm.mod⟩) (k:=fun s _=>?_)|refine Tc ?_|exact Tz)
  generalize s 0=gO
  repeat (first|refine Tw ?_|(refine Tm ?_;intro _)|exact Tz)
  exact WX.ret2 rfl (by exact zr rfl) (by exact zr rfl) [⟨gO,24,rs.flatMap zb⟩] (Lle.c Lle.nil) (.inr ⟨he,gO,rfl,rfl⟩)
 ·have hD:=fun gG gE gP pe=>aac (f:=87) [pt gG,pt gE,pt gP] 0 m 7 (fun w=>Seg w gG 0 (vg p q g h)∧Seg w gE 0 [.slice pe ps.length ks.length]∧Seg w gP 0 [.slice pz zs.length cZ]∧RdF zb (.slice pe ps.length ks.length) ps w∧RdF zb (.slice pz zs.length cZ) zs w)
   (fun w w' ⟨a,b,d,e,f⟩ hb=>⟨zL.seg w w' a hb,zL.seg w w' b hb,zL.seg w w' d hb,e.mod (.of_below hb _),f.mod (.of_below hb _)⟩) (by omega) (by omega) (by decide) (iX p q g h ps zs pe pz ks.length cZ 0 gG gE gP hPt (by omega) (by omega) (by omega) hq he)
  rw[hpl] at hD;refine Fn.enter Tryz.func41 rfl rfl rfl ?_;intro w hw;obtain⟨wA,wZ⟩:=hw
  repeat (first|refine WO.does (zT rfl rfl (by omega)) ?_|refine WO.does (zx rfl rfl (by omega)) ?_|refine WO.does (vk rfl rfl (by omega)) ?_|refine WO.does (zu rfl rfl hneq) ?_|refine Ta ?_|(refine Tm ?_;intro _)|refine WO.does (zZ rfl rfl) ?_|refine WO.acallX (hc:=hC _ _ _) (hR:=fun w1 hm=>⟨Hs.sg hm,Hs.sg hm,Hs.sg hm,wA.mod hm.mod,wZ.mod hm.mod⟩) (k:=fun s _=>?_)|refine Tc ?_|exact Tz)
  generalize s 0=gT
  repeat (first|refine Ta ?_|(refine Tm ?_;intro _)|refine WO.does (zZ rfl rfl) ?_|refine WO.acallR (hc:=hD _ _ _ _) (hR:=fun w1 hm=>⟨Hs.sg hm,Hs.sg hm,Hs.sg hm,RdF.own (Hs.sg hm) hpl,wZ.mod hm.mod⟩) (k:=?_)|refine Tc ?_|exact Tz)
  exact WX.ret2 rfl (by exact zr rfl) (by exact zr rfl) [] Lle.nil (.inl ⟨he,rfl,rfl⟩)
end
end
theorem RdF.ownR {α:Type} {f:α→List Value} {xs:List α} {r:List Value} {w:World} {g n c:Nat} (hs:Seg w g 0 (xs.flatMap f++r)) (hn:xs.length=n):RdF f (.slice (some ⟨g,0,none⟩) n c) xs w:=by
 subst hn;exact RdF.seg hs
end Sx
end
end Go.Proofs.YtbhblpnjhkddbaaGreat
