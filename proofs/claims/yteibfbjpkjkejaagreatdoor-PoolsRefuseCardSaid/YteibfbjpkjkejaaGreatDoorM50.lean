/- Part 50 of the proof. -/
import Derived.Test.YteibfbjpkjkejaaGreatDoorM48
import Derived.Test.YteibfbjpkjkejaaGreatDoorM49
set_option linter.unusedSimpArgs false
set_option linter.unusedVariables false
set_option maxHeartbeats 8000000
namespace Go.Proofs.YteibfbjpkjkejaaGreatDoor
section
open Go Go.RowKit Go.BigFrame
namespace Sx
attribute [local irreducible] DQ DQS WC WO WX wd
section
variable (p q g h:Nat) (f sec:Int) (pN:Option Addr) (cN:Nat) (N:List (Nat × Nat)) (ep gM P:Nat) (l:Nat→Value) (e d sC sS:Nat) (pV pY pP:Option Addr) (cV cY cP:Nat) (V Y:List Nat) (Pr:List (Nat × Nat)) (M:List (Value × Value))
theorem abG (hne:e≠ep):Fn Tryz.prog 11 [pt P,dlV e d (.slice pV V.length cV) (.slice pY Y.length cY) (.slice pP Pr.length cP) sC sS] (fun w=>Seg w P 0 (plC p q g h f sec (.slice pN N.length cN) ep gM l)) (Is (.tuple #[.bool false,.int .i64 1])):=by
 have hT:=pZ p q g h f sec (.slice pN N.length cN) ep gM P l;have hne' : (e:Int)≠(ep:Int):=by omega
 refine Fn.enter Tryz.func11 rfl rfl rfl ?_;intro w hw
 repeat (first|refine Ta ?_|(refine Tm ?_;intro _)|refine WO.acallR (hc:=hT) (hR:=fun w1 hm=>hw.mod hm.mod (by simp)) (k:=?_)|refine Tc ?_|exact Tz)
 refine WC.adraw 8 (k:=?_)
 iterate 8 (first|refine DQ.does (fun s _=>zj (hs:=hw) (hc:=rfl)) Dp.const ?_|refine DQ.does (fun s _=>ve rfl rfl hne') Dp.const ?_|refine Da ?_|refine Dc ?_)
 refine DQ.anil (k:=?_);intro sx _
 repeat (first|refine Tw ?_|(refine Tm ?_;intro _)|exact Tz)
 done
section
variable (hHb:∀ b∈yQ ep d V Y Pr,b<256) (hV:V≠[]) (hY:Y≠[]) (hP:Pr≠[]) (hVl:V.length≤100) (hYl:Y.length≤100) (hPl:Pr.length≤100) (hd:d<256) (hM:sF Tryz.prog 60 M)
include hHb hV hY hP hVl hYl hPl hd hM
theorem d6 {er:Int} (hne:er≠0) (hno:∀ u,(hsV (yQ ep d V Y Pr),u) ∉ M) (he:ckE p q g h f sec N ep d V Y Pr sC sS=some er) (hp:p<zd) (hq:q<zd) (hg:g<zd) (hh:h<zd) (hN:ym N) (hNl:N.length≤100)
  (hf1 : -9223372036854775808≤f) (hf2:f≤9223372036854775807) (hs1 : -9223372036854775808≤sec) (hs2:sec≤9223372036854775807) (hVb:∀ a∈V,a<zd) (hYb:∀ a∈Y,a<zd) (hPr:ym Pr) (hsC:sC<zd) (hsS:sS<zd) :
  Fn Tryz.prog 11 [pt P,dlV ep d (.slice pV V.length cV) (.slice pY Y.length cY) (.slice pP Pr.length cP) sC sS]
   (fun w=>Seg w P 0 (plC p q g h f sec (.slice pN N.length cN) ep gM l)∧(mpE gM M).ok w∧RdF zb (.slice pV V.length cV) V w∧RdF zb (.slice pY Y.length cY) Y w∧RdF pfC (.slice pP Pr.length cP) Pr w∧RdF yv (.slice pN N.length cN) N w∧qp w) (Is (.tuple #[.bool false,.int .i64 er])):=by
 have hT:=pZ p q g h f sec (.slice pN N.length cN) ep gM P l;have hH:=lx ep d sC sS pV pY pP cV cY cP V Y Pr hd hV hY hP (by omega) (by omega) (by omega);have hHl:(yQ ep d V Y Pr).length=32:=y7 _ _;have hk:=sR _ hHb hHl;have hbl:(byC (yQ ep d V Y Pr)).length=32:=by rw[zh];exact hHl
 have hC:=uH p q g h f sec pN pV pY pP cN cV cY cP N ep d V Y Pr sC sS hp hq hg hh hN hNl hf1 hf2 hs1 hs2 hd hVb hYb hPr hVl hYl hPl hsC hsS;rw[he] at hC;rw[show (some er).getD 0=er from rfl] at hC;generalize yQ ep d V Y Pr=H at *;refine Fn.enter Tryz.func11 rfl rfl rfl ?_;intro w hw;obtain⟨w1,w2,w3,w4,w5,w6,w7⟩:=hw
 repeat (first|refine Ta ?_|(refine Tm ?_;intro _)|refine WO.acallR (hc:=hT) (hR:=fun wx hm=>w1.mod hm.mod (by simp)) (k:=?_)|refine Tc ?_|exact Tz)
 refine WC.adraw 8 (k:=?_)
 iterate 8 (first|refine DQ.does (fun s _=>zj (hs:=w1) (hc:=rfl)) Dp.const ?_|refine DQ.does (fun s _=>zN rfl rfl rfl) Dp.const ?_|refine Da ?_|refine Dc ?_)
 refine DQ.anil (k:=?_);intro sx _
 repeat (first|refine WO.stores (zB (vs:=byC H) (cs':=byC H) (hl:=hbl) (h1:=yr _) (hc:=yu (by rw[hbl];rfl)) (hle:=by rw[hbl];rfl)) ?_|refine Ta ?_|(refine Tm ?_;intro _)|refine WO.acallR (hc:=hH) (hR:=fun wx hm=>⟨w3.mod hm.mod,w4.mod hm.mod,w5.mod hm.mod⟩) (k:=?_)|refine Tc ?_|exact Tz)
 refine WC.adrawF [8] 10 (k:=?_)
 iterate 3 (first|refine Da ?_|refine Dc ?_)
 refine DQ.does (fun s _=>zj (hs:=w1) (hc:=rfl)) Dp.const ?_;refine DQ.does (fun s _=>zE (vs:=byC H) (hc:=zK hbl) (hl:=hbl)) Dp.const ?_;refine DQ.does (fun s _=>qX tM rfl rfl (ec w2 (by simp)) hM hk hno) Dp.const ?_
 repeat (first|refine Da ?_|refine Df ?_)
 refine DQ.anil (k:=?_);intro sx _;generalize sx 9 0=gT
 repeat (first|refine Tw ?_|(refine Tm ?_;intro _)|exact Tz)
 refine WC.adraw 7 (k:=?_)
 iterate 7 (first|refine DQ.does (fun s _=>zn (vs:=stC p q g h f sec (.slice pN N.length cN)) (hs:=w1) (hc:=rfl)) Dp.const ?_|refine DQ.acallM (hc:=hC) (hR:=fun w1 hm=>⟨⟨w6.mod hm.mod,w3.mod hm.mod,w4.mod hm.mod,w5.mod hm.mod⟩,w7.mod hm.mod (by simp)⟩) (k:=?_)|refine Da ?_|refine Dc ?_)
 refine DQ.anil (k:=?_);intro sx _
 repeat (first|refine WO.does (ve rfl rfl hne) ?_|refine Ta ?_|(refine Tm ?_;intro _)|refine Tc ?_|exact Tz)
 done
end
end
end Sx
end
section
open Go Go.RowKit Go.BigFrame
namespace Sx
def anc (ops:List Oper):Nat→Nat→List Nat
 | 0,_=>[]
 | k+1,m=>dps ops m++(dps ops m).flatMap (anc ops k)
section
variable {P:Program} {w0:World} {gs:List Nat} {n:Nat} {ops:List Oper} {Q:Exit→Act→World→Prop} {main:List Nat} {T K0 K:List (Nat × Value)} {Lc L:List Ent} {done:Nat}
theorem aD {S:List Bool} (hcl:∀ i,S[i]?=some true→∀ j∈dps ops i,S[j]?=some true):∀ (k m:Nat),S[m]?=some true→∀ i∈anc ops k m,S[i]?=some true
 | 0,_,_,i,h=>by cases h
 | k+1,m,hm,i,h=>by
  unfold anc at h
  rcases List.mem_append.1 h with h|h
  ·exact hcl m hm i h
  ·obtain⟨j,hj,hi⟩:=List.mem_flatMap.1 h;exact aD hcl k j (hcl m hm j hj) i hi
theorem WM.finA {m:Nat} (fuel:Nat) (hc:jG ops main (T.map Prod.fst) n=true) (hm:main[done - 1]?=some m) (hd:done=main.length) (hall:(T.map Prod.fst).all (fun i=>(anc ops fuel m).contains i)=true)
  (k:WX w0 gs n .normal Q K L) (h0:0<done:=by decide):WM P w0 gs n ops Q main T done K L:=by
 have C:=jG.spec hc;have key:∀ (f:Nat) (S:List Bool) (a:Act) (w:World),S.length=ops.length→(∀ k m,main[k]?=some m→(S[m]?=some true↔k<done))→(∀ i,S[i]?=some true→∀ j∈dps ops i,S[j]?=some true)→a.defers=[]→a.tmps.size=n→Kn K a→Me w0 gs L w→wpAny P .any ops.toArray Q f S.toArray a w:=by
  intro f S a w h1 h3 hcl h4 h5 h6 h8;have hr:Region.ready .any ops.toArray S.toArray=[]:=by
   rw[List.eq_nil_iff_forall_not_mem];intro i hi;obtain⟨hil,hiS,hid⟩:=vB h1 hi;cases hmi:main.contains i with
   | true =>
    obtain⟨k',hk'⟩:=List.getElem?_of_mem (by simpa using hmi:i∈main);have hkl:k' < main.length:=by
     rcases Nat.lt_or_ge k' main.length with h|h
     ·exact h
     ·rw[List.getElem?_eq_none h] at hk';cases hk'
    have:=(h3 k' i hk').2 (by omega);rw[hiS] at this;cases this
   | false =>
    have hits:i∈T.map Prod.fst:=by
     have:=C.one i hil;rw[hmi] at this;cases h:(T.map Prod.fst).contains i with
     | true=>simpa using h
     | false=>exact absurd h.symm this
    have hmS:=(h3 (done - 1) m hm).2 (by omega);have hin:i∈anc ops fuel m:=by simpa using List.all_eq_true.1 hall i hits
    have:=aD hcl fuel m hmS i hin;rw[hiS] at this;cases this
  cases f with
  | zero=>exact⟨hr,k a w h4 h5 h6 h8⟩
  | succ f=>exact⟨fun _=>k a w h4 h5 h6 h8,fun i hi=>by rw[hr] at hi;cases hi⟩
 exact fun f S a w h1 _ h3 hcl h4 h5 h6 _ h8=>key f S a w h1 h3 hcl h4 h5 h6 h8
end
attribute [local irreducible] wd DQ DQS WO WC WX WM
theorem RdF.modH {α:Type} {f:α→List Value} {pt:Option Addr} {n c:Nat} {xs:List α} {w w' : World} {gs:List Nat} (h:RdF f (.slice pt n c) xs w) (hm:Mod gs w w') (hb:∀ a,pt=some a→a.block ∉ gs):RdF f (.slice pt n c) xs w':=by
 obtain⟨p,c',e,h1⟩:=h;cases e;refine⟨_,_,rfl,?_⟩
 rcases h1 with h1|⟨b,o,rfl,hs⟩
 ·exact .inl h1
 ·exact .inr ⟨b,o,rfl,hs.mod hm (hb _ rfl)⟩
def aT (l:Nat→Value) (d:Nat) (v:Value):Nat→Value:=fun k=>if k=d then v else l k
section
variable (p q g h:Nat) (f sec:Int) (ns:Value) (ep gM:Nat) (l:Nat→Value)
theorem adu {d:Nat} (hd:d<8):(plC p q g h f sec ns ep gM l)[21+d*1]?=some (l d):=by
 rcases d with _|_|_|_|_|_|_|_|d
 all_goals first|rfl|omega
theorem abD {d:Nat} (hd:d<8) (v:Value):over (plC p q g h f sec ns ep gM l) (21+d*1) [v]=plC p q g h f sec ns ep gM (aT l d v):=by
 rcases d with _|_|_|_|_|_|_|_|d
 all_goals first|rfl|omega
end
theorem nz {H:List Nat} (hl:(byC H).length=32):sH (fun i=>some (i*(byC (List.replicate 32 0)).length,(byC (List.replicate 32 0)).length)) (mkz 1 (byC (List.replicate 32 0))) [(0,.agg (byC H).toArray)]=some (byC H):=by
 have e1:(byC (List.replicate 32 0)).length=32:=rfl;have e2:cellsOf (.agg (byC H).toArray)=byC H:=by simp[cellsOf]
 unfold sH;simp only[e1,e2,hl,Nat.zero_mul,Nat.zero_add];rw[show (Nat.beq 32 32 && Nat.ble 32 (mkz 1 (byC (List.replicate 32 0))).length)=true from rfl];simp only[cond_true,sH];rw[yu (by rw[hl];rfl)]
def aeE (P p q g h:Nat) (f sec:Int) (ns:Value) (ep gM:Nat) (l:Nat→Value) (M:List (Value × Value)) (hs:List (List Nat)) (x:Dd):Value→List Ent→Prop:=fun v N =>
 ∃ (g1 c1:Nat) (b:Dk),v=.tuple #[.bool true,.int .i64 0]∧hs.length+1≤c1∧c1<9223372036854775808 ∧
  N=⟨P,84,plC p q g h f sec ns ep gM (aT l x.d (.slice (some ⟨g1,0,none⟩) (hs.length+1) c1))⟩::mpE gM (M++[(hsV (ddH ep x),ddV ep x b)])::⟨g1,60,(hs++[ddH ep x]).flatMap byC++mkz (c1 - (hs.length+1)) (byC (List.replicate 32 0))⟩::ddL x b
section
variable (p q g h:Nat) (f sec:Int) (pN:Option Addr) (cN:Nat) (N:List (Nat × Nat)) (ep gM P:Nat) (l:Nat→Value) (x:Dd) (pV pY pP:Option Addr) (cV cY cP:Nat) (M:List (Value × Value)) (hs:List (List Nat)) (gl cl:Nat)
theorem abx (hHb:∀ b∈ddH ep x,b<256) (hV:x.V≠[]) (hY:x.Y≠[]) (hP:x.P≠[]) (hVl:x.V.length≤100) (hYl:x.Y.length≤100) (hPl:x.P.length≤100) (hd:x.d<8) (hM:sF Tryz.prog 60 M)
  (hno:∀ u,(hsV (ddH ep x),u) ∉ M) (he:ckE p q g h f sec N ep x.d x.V x.Y x.P x.c x.s=none) (hp:p<zd) (hq:q<zd) (hg:g<zd) (hh:h<zd) (hN:ym N) (hNl:N.length≤100)
  (hf1 : -9223372036854775808≤f) (hf2:f≤9223372036854775807) (hs1 : -9223372036854775808≤sec) (hs2:sec≤9223372036854775807) (hVb:∀ a∈x.V,a<zd) (hYb:∀ a∈x.Y,a<zd) (hPr:ym x.P) (hsC:x.c<zd) (hsS:x.s<zd)
  (hld:l x.d=agV gl cl hs.length hs.length) (hls:hs.length≤1000) (hcl:0<hs.length→hs.length≤cl∧cl<9223372036854775808) (h32:∀ b∈hs,(byC b).length=32)
  (hfar:∀ a,pV=some a∨pY=some a∨pP=some a∨pN=some a→a.block ∉ (P::gM::(rwL 60 gl (hs.flatMap byC) (mkz (cl - hs.length) (byC (List.replicate 32 0))) hs.length).map Ent.g))
  (h0:0 ∉ (P::gM::(rwL 60 gl (hs.flatMap byC) (mkz (cl - hs.length) (byC (List.replicate 32 0))) hs.length).map Ent.g)) :
  FnL Tryz.prog 11 [pt P,dlV ep x.d (.slice pV x.V.length cV) (.slice pY x.Y.length cY) (.slice pP x.P.length cP) x.c x.s]
   (⟨P,84,plC p q g h f sec (.slice pN N.length cN) ep gM l⟩::mpE gM M::rwL 60 gl (hs.flatMap byC) (mkz (cl - hs.length) (byC (List.replicate 32 0))) hs.length)
   (fun w=>RdF zb (.slice pV x.V.length cV) x.V w∧RdF zb (.slice pY x.Y.length cY) x.Y w∧RdF pfC (.slice pP x.P.length cP) x.P w∧RdF yv (.slice pN N.length cN) N w∧qp w)
   (aeE P p q g h f sec (.slice pN N.length cN) ep gM l M hs x):=by
 have hT:=pZ p q g h f sec (.slice pN N.length cN) ep gM P l;obtain⟨d,V,Y,Pr,sC,sS⟩:=x;simp only at *;have hH:=lx ep d sC sS pV pY pP cV cY cP V Y Pr (by omega) hV hY hP (by omega) (by omega) (by omega);have hC:=uH p q g h f sec pN pV pY pP cN cV cY cP N ep d V Y Pr sC sS hp hq hg hh hN hNl hf1 hf2 hs1 hs2 (by omega) hVb hYb hPr hVl hYl hPl hsC hsS;rw[he,show (none:Option Int).getD 0=0 from rfl] at hC;have hW:=aW ep d sC sS pV pY pP cV cY cP V Y Pr (List.length_pos_iff.2 hV) (List.length_pos_iff.2 hY) (List.length_pos_iff.2 hP) (by omega) (by omega) (by omega);unfold aeE;simp only[show ddH ep ⟨d,V,Y,Pr,sC,sS⟩=yQ ep d V Y Pr from rfl] at *;have hHl:(yQ ep d V Y Pr).length=32:=y7 _ _;have hk:=sR _ hHb hHl;have hbl:(byC (yQ ep d V Y Pr)).length=32:=by rw[zh];exact hHl
 have hgl:=adu p q g h f sec (.slice pN N.length cN) ep gM l hd;have hov:=fun v=>abD p q g h f sec (.slice pN N.length cN) ep gM l hd v;have hxl:(hs.flatMap byC).length=hs.length*32:=by
  clear hld hcl hfar h0 hls
  induction hs with
  | nil=>rfl
  | cons a r ih=>rw[List.flatMap_cons,List.length_append,h32 a (by simp),ih (fun b hb=>h32 b (by simp[hb])),List.length_cons];omega
 have hfV:∀ a,pV=some a→_:=fun a e=>hfar a (.inl e);have hfY:∀ a,pY=some a→_:=fun a e=>hfar a (.inr (.inl e));have hfP:∀ a,pP=some a→_:=fun a e=>hfar a (.inr (.inr (.inl e)));have hfN:∀ a,pN=some a→_:=fun a e=>hfar a (.inr (.inr (.inr e)));generalize yQ ep d V Y Pr=H at *;clear hfar;rw[hld] at hgl;refine FnL.enter Tryz.func11 rfl rfl rfl ?_;intro w hw;obtain⟨w3,w4,w5,w6,w7⟩:=hw;have hgs:(Ent.mk P 84 (plC p q g h f sec (.slice pN N.length cN) ep gM l)::mpE gM M::rwL 60 gl (hs.flatMap byC) (mkz (cl - hs.length) (byC (List.replicate 32 0))) hs.length).map Ent.g=P::gM::(rwL 60 gl (hs.flatMap byC) (mkz (cl - hs.length) (byC (List.replicate 32 0))) hs.length).map Ent.g:=rfl;rw[hgs];clear hgs;generalize hG:P::gM::(rwL 60 gl (hs.flatMap byC) (mkz (cl - hs.length) (byC (List.replicate 32 0))) hs.length).map Ent.g=GS at *;clear hG
 repeat (first|refine Ta ?_|(refine Tm ?_;intro _)|refine WO.acallR (hc:=hT) (hR:=fun wx hm=>Hs.sg hm) (k:=?_)|refine Tc ?_|exact Tz)
 rename_i gD;refine WC.adraw 8 (k:=?_)
 iterate 8 (first|refine DQ.does (fun s _=>zN rfl rfl rfl) Dp.const ?_|refine Da ?_|refine Dc ?_)
 refine DQ.anil (k:=?_);intro sx _
 repeat (first|refine WO.stores (zB (vs:=byC H) (cs':=byC H) (hl:=hbl) (h1:=yr _) (hc:=yu (by rw[hbl];rfl)) (hle:=by rw[hbl];rfl)) ?_|refine Ta ?_|(refine Tm ?_;intro _)|refine WO.acallR (hc:=hH) (hR:=fun wx hm=>⟨w3.modH hm.mod hfV,w4.modH hm.mod hfY,w5.modH hm.mod hfP⟩) (k:=?_)|refine Tc ?_|exact Tz)
 rename_i gH;refine WC.adrawF [8] 10 (k:=?_)
 iterate 4 (first|refine Da ?_|refine Dc ?_)
 refine DQ.does (fun s _=>zE (vs:=byC H) (hc:=zK hbl) (hl:=hbl)) Dp.const ?_;refine DQ.does (fun s _=>qX tM rfl rfl (Mr.mp (by simp)) hM hk hno) Dp.const ?_
 repeat (first|refine Da ?_|refine Df ?_)
 refine DQ.anil (k:=?_);intro sx _;generalize sx 9 0=gT
 repeat (first|refine Tw ?_|(refine Tm ?_;intro _)|exact Tz)
 refine WC.adraw 7 (k:=?_)
 iterate 7 (first|refine DQ.does (fun s _=>zE (vs:=stC p q g h f sec (.slice pN N.length cN)) (hc:=rfl)) Dp.const ?_|refine DQ.acallM (hc:=hC) (hR:=fun w1 hm=>⟨⟨w6.modH hm.mod hfN,w3.modH hm.mod hfV,w4.modH hm.mod hfY,w5.modH hm.mod hfP⟩,w7.mod hm.mod h0⟩) (k:=?_)|refine Da ?_|refine Dc ?_)
 refine DQ.anil (k:=?_);intro sx _
 repeat (first|refine WO.does (zN rfl rfl rfl) ?_|refine Ta ?_|(refine Tm ?_;intro _)|refine Tc ?_|exact Tz)
 refine WC.adraw 7 (k:=?_)
 iterate 4 (first|refine Da ?_|refine Dc ?_)
 refine DQ.does (fun s _=>zE (vs:=byC H) (hc:=zK hbl) (hl:=hbl)) Dp.const ?_
 iterate 1 (first|refine Da ?_|refine Dc ?_)
 refine DQ.acallX (hc:=hW) (hR:=fun w1 hm=>⟨w3.modH hm.mod hfV,w4.modH hm.mod hfY,w5.modH hm.mod hfP⟩) (k:=?_);refine DQ.anil (k:=?_);intro sx2 _
 try simp only[List.map_cons,List.map_nil,List.cons_append,List.nil_append]
 generalize sx2 6 0=gV;generalize sx2 6 1=gY;generalize sx2 6 2=gP;generalize sx2 6 3=rV;generalize sx2 6 4=rY;generalize sx2 6 5=rP;refine WO.stores (il tM rfl rfl rfl (by repeat (first|exact Pk.here|apply Pk.there)) hM hk hno) ?_
 repeat (first|refine Tw ?_|(refine Tm ?_;intro _)|exact Tz)
 have hcH:cut (byC H) 0 32=byC H:=zK hbl;have h1H:(byC H).length=1*(byC (List.replicate 32 0)).length:=by rw[hbl];rfl
 have hle8:Nat.ble (21+d*1+1) (plC p q g h f sec (.slice pN N.length cN) ep gM l).length=true:=by rw[Nat.ble_eq];show 21+d*1+1≤29;omega
 rcases Nat.eq_zero_or_pos hs.length with hn0|hpos
 ·obtain rfl:=List.length_eq_zero_iff.1 hn0
  try dsimp only[List.length_nil,agV,rwL] at hgl ⊢
  refine WC.mains [11,12,15,16] [(0,pt P),(1,.pointer (some ⟨gD,1,none⟩)),(2,.int .u8 (d:Int)),(3,pt P),(4,.pointer (some ⟨gD,1,none⟩)),(5,.int .u8 (d:Int)),(6,pt P),(7,.pointer (some ⟨P,21,none⟩)),(8,.pointer (some ⟨P,21+d*1,none⟩)),(9,.slice none 0 0),(10,.agg (byC H).toArray),(13,pt P),(14,.pointer (some ⟨P,21,none⟩))] (by decide) ?_
  refine WM.with [⟨gH,60,byC H⟩,⟨gD,50,dlC ep d (.slice pV V.length cV) (.slice pY Y.length cY) (.slice pP Pr.length cP) sC sS⟩,⟨P,84,plC p q g h f sec (.slice pN N.length cN) ep gM l⟩] (by kernel_rfl)
   (Tls.auto (Tls.auto (Tls.auto (Tls.auto (Tls.auto (Tls.auto (Tls.auto (Tls.auto (Tls.cons rfl (zY (i:=d) rfl rfl hd rfl) (Tls.cons rfl (zW (hc:=hgl)) (Tls.cons rfl (zE (vs:=byC H) (hc:=zK hbl) (hl:=hbl)) (Tls.auto (Tls.auto Tls.nil)))))))))))))
   (fun hc hT=>?_)
  refine WM.step (m:=11) rfl rfl hc hT ?_ (hl0:=by repeat (first|exact Lle.nil|refine Lle.c ?_));refine WO.makes (ze (cs:=byC H) rfl (by decide) (nz hbl)) ?_;intro gB;refine WO.nil (WX.wm [(61,.slice (some ⟨gB,0,none⟩) 1 1)] ?_);refine WM.step (m:=12) rfl rfl hc hT ?_ (hl0:=by repeat (first|exact Lle.nil|refine Lle.c ?_));refine WO.appNZ (z:=byC (List.replicate 32 0)) (ys:=byC H) (m:=1) rfl rfl rfl (Rds.own (m:=32) Hs.a hcH) h1H (by decide) (by decide) (by decide) (by decide) (fun g1 c1 a2 a3=>?_);refine WO.nil (WX.wm [(62,.slice (some ⟨g1,0,none⟩) (0+1) c1)] ?_);refine WM.step (m:=15) rfl rfl hc hT ?_ (hl0:=by repeat (first|exact Lle.nil|refine Lle.c ?_));refine WO.does (zY (i:=d) (o':=21+d*1) rfl rfl hd rfl) ?_;refine WO.nil (WX.wm [(65,.pointer (some ⟨P,21+d*1,none⟩))] ?_);refine WM.step (m:=16) rfl rfl hc hT ?_ (hl0:=by repeat (first|exact Lle.nil|refine Lle.c ?_));refine WO.stores (zB (vs:=[.slice (some ⟨g1,0,none⟩) (0+1) c1]) (cs':=plC p q g h f sec (.slice pN N.length cN) ep gM (aT l d (.slice (some ⟨g1,0,none⟩) (0+1) c1))) (hc:=hov _) (hle:=hle8)) ?_;refine WO.nil (WX.wm [] ?_);refine WM.finA (m:=16) 5 hc rfl rfl (by kernel_rfl) ?_;clear hc hT
  repeat (first|refine Tw ?_|(refine Tm ?_;intro _)|exact Tz)
  exact WX.retP_of (N:=⟨P,84,plC p q g h f sec (.slice pN N.length cN) ep gM (aT l d (.slice (some ⟨g1,0,none⟩) (0+1) c1))⟩::mpE gM (M++[(hsV H,ddV ep ⟨d,V,Y,Pr,sC,sS⟩ ⟨gV,gY,gP,rV,rY,rP⟩)])::⟨g1,60,byC H++mkz (c1 - (0+1)) (byC (List.replicate 32 0))⟩::[⟨gV,24,V.flatMap zb++mkz rV (zb 0)⟩,⟨gY,24,Y.flatMap zb++mkz rY (zb 0)⟩,⟨gP,96,Pr.flatMap pfC++mkz rP (vh 0 0)⟩])
   (acD rfl (zr rfl) (zr rfl)) (by repeat (first|exact Lle.nil|refine Lle.m ?_|refine Lle.c ?_)) ⟨g1,c1,⟨gV,gY,gP,rV,rY,rP⟩,rfl,a3,a2,by simp[ddL,ddV]⟩
 ·rw[ut hpos] at hgl;rw[uf hpos];obtain⟨r1,r2⟩:=hcl hpos;refine WC.mains [11,12,15,16] [(0,pt P),(1,.pointer (some ⟨gD,1,none⟩)),(2,.int .u8 (d:Int)),(3,pt P),(4,.pointer (some ⟨gD,1,none⟩)),(5,.int .u8 (d:Int)),(6,pt P),(7,.pointer (some ⟨P,21,none⟩)),(8,.pointer (some ⟨P,21+d*1,none⟩)),(9,.slice (some ⟨gl,0,none⟩) hs.length cl),(10,.agg (byC H).toArray),(13,pt P),(14,.pointer (some ⟨P,21,none⟩))] (by decide) ?_
  refine WM.with [⟨gH,60,byC H⟩,⟨gD,50,dlC ep d (.slice pV V.length cV) (.slice pY Y.length cY) (.slice pP Pr.length cP) sC sS⟩,⟨P,84,plC p q g h f sec (.slice pN N.length cN) ep gM l⟩] (by kernel_rfl)
   (Tls.auto (Tls.auto (Tls.auto (Tls.auto (Tls.auto (Tls.auto (Tls.auto (Tls.auto (Tls.cons rfl (zY (i:=d) rfl rfl hd rfl) (Tls.cons rfl (zW (hc:=hgl)) (Tls.cons rfl (zE (vs:=byC H) (hc:=zK hbl) (hl:=hbl)) (Tls.auto (Tls.auto Tls.nil)))))))))))))
   (fun hc hT=>?_)
  refine WM.step (m:=11) rfl rfl hc hT ?_ (hl0:=by repeat (first|exact Lle.nil|refine Lle.c ?_));refine WO.makes (ze (cs:=byC H) rfl (by decide) (nz hbl)) ?_;intro gB;refine WO.nil (WX.wm [(61,.slice (some ⟨gB,0,none⟩) 1 1)] ?_);refine WM.step (m:=12) rfl rfl hc hT ?_ (hl0:=by repeat (first|exact Lle.nil|refine Lle.c ?_));refine WO.appKZ (z:=byC (List.replicate 32 0)) (m:=1) (l:=hs.length+1) rfl rfl rfl (xs:=hs.flatMap byC) (ys:=byC H) hxl r1 Pk.a (Rds.own (m:=32) Hs.a hcH) h1H (yr _) rfl (by omega) r2 (by omega) (by decide) (by decide) (fun g1 c1 a2 a3=>?_);refine WO.nil (WX.wm [(62,.slice (some ⟨g1,0,none⟩) (hs.length+1) c1)] ?_);refine WM.step (m:=15) rfl rfl hc hT ?_ (hl0:=by repeat (first|exact Lle.nil|refine Lle.c ?_));refine WO.does (zY (i:=d) (o':=21+d*1) rfl rfl hd rfl) ?_;refine WO.nil (WX.wm [(65,.pointer (some ⟨P,21+d*1,none⟩))] ?_);refine WM.step (m:=16) rfl rfl hc hT ?_ (hl0:=by repeat (first|exact Lle.nil|refine Lle.c ?_));refine WO.stores (zB (vs:=[.slice (some ⟨g1,0,none⟩) (hs.length+1) c1]) (cs':=plC p q g h f sec (.slice pN N.length cN) ep gM (aT l d (.slice (some ⟨g1,0,none⟩) (hs.length+1) c1))) (hc:=hov _) (hle:=hle8)) ?_;refine WO.nil (WX.wm [] ?_);refine WM.finA (m:=16) 5 hc rfl rfl (by kernel_rfl) ?_;clear hc hT
  repeat (first|refine Tw ?_|(refine Tm ?_;intro _)|exact Tz)
  exact WX.retP_of (N:=⟨P,84,plC p q g h f sec (.slice pN N.length cN) ep gM (aT l d (.slice (some ⟨g1,0,none⟩) (hs.length+1) c1))⟩::mpE gM (M++[(hsV H,ddV ep ⟨d,V,Y,Pr,sC,sS⟩ ⟨gV,gY,gP,rV,rY,rP⟩)])::⟨g1,60,(hs.flatMap byC++byC H)++mkz (c1 - (hs.length+1)) (byC (List.replicate 32 0))⟩::[⟨gV,24,V.flatMap zb++mkz rV (zb 0)⟩,⟨gY,24,Y.flatMap zb++mkz rY (zb 0)⟩,⟨gP,96,Pr.flatMap pfC++mkz rP (vh 0 0)⟩])
   (acD rfl (zr rfl) (zr rfl)) (by repeat (first|exact Lle.nil|refine Lle.m ?_|refine Lle.c ?_)) ⟨g1,c1,⟨gV,gY,gP,rV,rY,rP⟩,rfl,a3,a2,by simp[ddL,ddV,List.flatMap_append]⟩
end
end Sx
end
end Go.Proofs.YteibfbjpkjkejaaGreatDoor
