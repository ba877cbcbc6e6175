/- Part 46 of the proof. -/
import Derived.Test.YteibfbjpkjkejaaGreatDoorS44
import Derived.Test.YteibfbjpkjkejaaGreatDoorS45
set_option linter.unusedSimpArgs false
set_option linter.unusedVariables false
set_option maxHeartbeats 8000000
namespace Go.Proofs.YteibfbjpkjkejaaGreatDoor
section
open Go Go.RowKit Go.BigFrame
namespace Sx
attribute [local irreducible] DQ DQS WC WO WX wd
section
variable (p q g h:Nat) (f sec:Int) (pN:Option Addr) (cN:Nat) (N:List (Nat × Nat)) (ep gM P:Nat) (l:Nat→Value) (e d sC sS:Nat) (pV pY pP:Option Addr) (cV cY cP:Nat) (V Y:List Nat) (Pr:List (Nat × Nat)) (M:List (Value × Value))
section
variable (hHb:∀ b∈yX ep d V Y Pr,b<256) (hV:V≠[]) (hY:Y≠[]) (hP:Pr≠[]) (hVl:V.length≤100) (hYl:Y.length≤100) (hPl:Pr.length≤100) (hd:d<256) (hM:tf Tryz.prog 60 M)
include hHb hV hY hP hVl hYl hPl hd hM
theorem acQ {e1 d1 c1 s1:Nat} {a1 a2 a3:Option Addr} {n1 n2 n3 k1 k2 k3:Nat} (hin:(hsV (yX ep d V Y Pr),dlV e1 d1 (.slice a1 n1 k1) (.slice a2 n2 k2) (.slice a3 n3 k3) c1 s1)∈M) :
  Fn Tryz.prog 11 [pt P,dlV ep d (.slice pV V.length cV) (.slice pY Y.length cY) (.slice pP Pr.length cP) sC sS]
   (fun w=>Seg w P 0 (plC p q g h f sec (.slice pN N.length cN) ep gM l)∧(mpE gM M).ok w∧RdF zc (.slice pV V.length cV) V w∧RdF zc (.slice pY Y.length cY) Y w∧RdF pfC (.slice pP Pr.length cP) Pr w) (Is (.tuple #[.bool false,.int .i64 0])):=by
 have hT:=sD p q g h f sec (.slice pN N.length cN) ep gM P l;have hH:=kb ep d sC sS pV pY pP cV cY cP V Y Pr hd hV hY hP (by omega) (by omega) (by omega);have hHl:(yX ep d V Y Pr).length=32:=vh _ _;have hk:=uX _ hHb hHl;have hbl:(byC (yX ep d V Y Pr)).length=32:=by rw[zh];exact hHl
 generalize yX ep d V Y Pr=H at *;refine Fn.enter Tryz.func11 rfl rfl rfl ?_;intro w hw;obtain⟨w1,w2,w3,w4,w5⟩:=hw
 repeat (first|refine Ta ?_|(refine Tm ?_;intro _)|refine WO.acallR (hc:=hT) (hR:=fun wx hm=>w1.mod hm.mod (by simp)) (k:=?_)|refine Tc ?_|exact Tz)
 refine WC.adraw 8 (k:=?_)
 iterate 8 (first|refine DQ.does (fun s _=>zi (hs:=w1) (hc:=rfl)) Dp.const ?_|refine DQ.does (fun s _=>zO rfl rfl rfl) Dp.const ?_|refine Da ?_|refine Dc ?_)
 refine DQ.anil (k:=?_);intro sx _
 repeat (first|refine WO.stores (zC (vs:=byC H) (cs':=byC H) (hl:=hbl) (h1:=zM _) (hc:=z7 (by rw[hbl];rfl)) (hle:=by rw[hbl];rfl)) ?_|refine Ta ?_|(refine Tm ?_;intro _)|refine WO.acallR (hc:=hH) (hR:=fun wx hm=>⟨w3.mod hm.mod,w4.mod hm.mod,w5.mod hm.mod⟩) (k:=?_)|refine Tc ?_|exact Tz)
 refine WC.adrawF [8] 10 (k:=?_)
 iterate 3 (first|refine Da ?_|refine Dc ?_)
 refine DQ.does (fun s _=>zi (hs:=w1) (hc:=rfl)) Dp.const ?_;refine DQ.does (fun s _=>zy (vs:=byC H) (hc:=zz hbl) (hl:=hbl)) Dp.const ?_;refine DQ.does (fun s _=>tb vV rfl rfl (pv w2 (by simp)) hM hk hin) Dp.const ?_
 repeat (first|refine Da ?_|refine Df ?_)
 refine DQ.anil (k:=?_);intro sx _;generalize sx 9 0=gT
 repeat (first|refine Tw ?_|(refine Tm ?_;intro _)|exact Tz)
 done
end
end
end Sx
end
section
open Go Go.RowKit Go.BigFrame
namespace Sx
def anc (ops:List Oper):Nat→Nat→List Nat
 | 0,_=>[]
 | k+1,m=>dps ops m++(dps ops m).flatMap (anc ops k)
section
variable {P:Program} {w0:World} {gs:List Nat} {n:Nat} {ops:List Oper} {Q:Exit→Act→World→Prop} {main:List Nat} {T K0 K:List (Nat × Value)} {Lc L:List Ent} {done:Nat}
theorem dL {S:List Bool} (hcl:∀ i,S[i]?=some true→∀ j∈dps ops i,S[j]?=some true):∀ (k m:Nat),S[m]?=some true→∀ i∈anc ops k m,S[i]?=some true
 | 0,_,_,i,h=>by cases h
 | k+1,m,hm,i,h=>by
  unfold anc at h
  rcases List.mem_append.1 h with h|h
  ·exact hcl m hm i h
  ·obtain⟨j,hj,hi⟩:=List.mem_flatMap.1 h;exact dL hcl k j (hcl m hm j hj) i hi
theorem WM.finA {m:Nat} (fuel:Nat) (hc:iz ops main (T.map Prod.fst) n=true) (hm:main[done - 1]?=some m) (hd:done=main.length) (hall:(T.map Prod.fst).all (fun i=>(anc ops fuel m).contains i)=true)
  (k:WX w0 gs n .normal Q K L) (h0:0<done:=by decide):WM P w0 gs n ops Q main T done K L:=by
 have C:=iz.spec hc;have key:∀ (f:Nat) (S:List Bool) (a:Act) (w:World),S.length=ops.length→(∀ k m,main[k]?=some m→(S[m]?=some true↔k<done))→(∀ i,S[i]?=some true→∀ j∈dps ops i,S[j]?=some true)→a.defers=[]→a.tmps.size=n→Kn K a→Me w0 gs L w→wpAny P .any ops.toArray Q f S.toArray a w:=by
  intro f S a w h1 h3 hcl h4 h5 h6 h8;have hr:Region.ready .any ops.toArray S.toArray=[]:=by
   rw[List.eq_nil_iff_forall_not_mem];intro i hi;obtain⟨hil,hiS,hid⟩:=yu h1 hi;cases hmi:main.contains i with
   | true =>
    obtain⟨k',hk'⟩:=List.getElem?_of_mem (by simpa using hmi:i∈main);have hkl:k' < main.length:=by
     rcases Nat.lt_or_ge k' main.length with h|h
     ·exact h
     ·rw[List.getElem?_eq_none h] at hk';cases hk'
    have:=(h3 k' i hk').2 (by omega);rw[hiS] at this;cases this
   | false =>
    have hits:i∈T.map Prod.fst:=by
     have:=C.one i hil;rw[hmi] at this;cases h:(T.map Prod.fst).contains i with
     | true=>simpa using h
     | false=>exact absurd h.symm this
    have hmS:=(h3 (done - 1) m hm).2 (by omega);have hin:i∈anc ops fuel m:=by simpa using List.all_eq_true.1 hall i hits
    have:=dL hcl fuel m hmS i hin;rw[hiS] at this;cases this
  cases f with
  | zero=>exact⟨hr,k a w h4 h5 h6 h8⟩
  | succ f=>exact⟨fun _=>k a w h4 h5 h6 h8,fun i hi=>by rw[hr] at hi;cases hi⟩
 exact fun f S a w h1 _ h3 hcl h4 h5 h6 _ h8=>key f S a w h1 h3 hcl h4 h5 h6 h8
end
attribute [local irreducible] wd DQ DQS WO WC WX WM
theorem RdF.modH {α:Type} {f:α→List Value} {pt:Option Addr} {n c:Nat} {xs:List α} {w w' : World} {gs:List Nat} (h:RdF f (.slice pt n c) xs w) (hm:Mod gs w w') (hb:∀ a,pt=some a→a.block ∉ gs):RdF f (.slice pt n c) xs w':=by
 obtain⟨p,c',e,h1⟩:=h;cases e;refine⟨_,_,rfl,?_⟩
 rcases h1 with h1|⟨b,o,rfl,hs⟩
 ·exact .inl h1
 ·exact .inr ⟨b,o,rfl,hs.mod hm (hb _ rfl)⟩
def aaA (l:Nat→Value) (d:Nat) (v:Value):Nat→Value:=fun k=>if k=d then v else l k
section
variable (p q g h:Nat) (f sec:Int) (ns:Value) (ep gM:Nat) (l:Nat→Value)
theorem adH {d:Nat} (hd:d<8):(plC p q g h f sec ns ep gM l)[21+d*1]?=some (l d):=by
 rcases d with _|_|_|_|_|_|_|_|d
 all_goals first|rfl|omega
theorem abw {d:Nat} (hd:d<8) (v:Value):over (plC p q g h f sec ns ep gM l) (21+d*1) [v]=plC p q g h f sec ns ep gM (aaA l d v):=by
 rcases d with _|_|_|_|_|_|_|_|d
 all_goals first|rfl|omega
end
theorem vk {H:List Nat} (hl:(byC H).length=32):sZ (fun i=>some (i*(byC (List.replicate 32 0)).length,(byC (List.replicate 32 0)).length)) (mkz 1 (byC (List.replicate 32 0))) [(0,.agg (byC H).toArray)]=some (byC H):=by
 have e1:(byC (List.replicate 32 0)).length=32:=rfl;have e2:cellsOf (.agg (byC H).toArray)=byC H:=by simp[cellsOf]
 unfold sZ;simp only[e1,e2,hl,Nat.zero_mul,Nat.zero_add];rw[show (Nat.beq 32 32 && Nat.ble 32 (mkz 1 (byC (List.replicate 32 0))).length)=true from rfl];simp only[cond_true,sZ];rw[z7 (by rw[hl];rfl)]
def ae5 (P p q g h:Nat) (f sec:Int) (ns:Value) (ep gM:Nat) (l:Nat→Value) (M:List (Value × Value)) (hs:List (List Nat)) (x:Dd):Value→List Ent→Prop:=fun v N =>
 ∃ (g1 c1:Nat) (b:Dk),v=.tuple #[.bool true,.int .i64 0]∧hs.length+1≤c1∧c1<9223372036854775808 ∧
  N=⟨P,84,plC p q g h f sec ns ep gM (aaA l x.d (.slice (some ⟨g1,0,none⟩) (hs.length+1) c1))⟩::mpE gM (M++[(hsV (ddH ep x),ddV ep x b)])::⟨g1,60,(hs++[ddH ep x]).flatMap byC++mkz (c1 - (hs.length+1)) (byC (List.replicate 32 0))⟩::ddL x b
section
variable (p q g h:Nat) (f sec:Int) (pN:Option Addr) (cN:Nat) (N:List (Nat × Nat)) (ep gM P:Nat) (l:Nat→Value) (x:Dd) (pV pY pP:Option Addr) (cV cY cP:Nat) (M:List (Value × Value)) (hs:List (List Nat)) (gl cl:Nat)
theorem aaZ (hHb:∀ b∈ddH ep x,b<256) (hV:x.V≠[]) (hY:x.Y≠[]) (hP:x.P≠[]) (hVl:x.V.length≤100) (hYl:x.Y.length≤100) (hPl:x.P.length≤100) (hd:x.d<8) (hM:tf Tryz.prog 60 M)
  (hno:∀ u,(hsV (ddH ep x),u) ∉ M) (he:ckE p q g h f sec N ep x.d x.V x.Y x.P x.c x.s=none) (hp:p<zd) (hq:q<zd) (hg:g<zd) (hh:h<zd) (hN:yz N) (hNl:N.length≤100)
  (hf1 : -9223372036854775808≤f) (hf2:f≤9223372036854775807) (hs1 : -9223372036854775808≤sec) (hs2:sec≤9223372036854775807) (hVb:∀ a∈x.V,a<zd) (hYb:∀ a∈x.Y,a<zd) (hPr:yz x.P) (hsC:x.c<zd) (hsS:x.s<zd)
  (hld:l x.d=agV gl cl hs.length hs.length) (hls:hs.length≤1000) (hcl:0<hs.length→hs.length≤cl∧cl<9223372036854775808) (h32:∀ b∈hs,(byC b).length=32)
  (hfar:∀ a,pV=some a∨pY=some a∨pP=some a∨pN=some a→a.block ∉ (P::gM::(rwL 60 gl (hs.flatMap byC) (mkz (cl - hs.length) (byC (List.replicate 32 0))) hs.length).map Ent.g))
  (h0:0 ∉ (P::gM::(rwL 60 gl (hs.flatMap byC) (mkz (cl - hs.length) (byC (List.replicate 32 0))) hs.length).map Ent.g)) :
  FnL Tryz.prog 11 [pt P,dlV ep x.d (.slice pV x.V.length cV) (.slice pY x.Y.length cY) (.slice pP x.P.length cP) x.c x.s]
   (⟨P,84,plC p q g h f sec (.slice pN N.length cN) ep gM l⟩::mpE gM M::rwL 60 gl (hs.flatMap byC) (mkz (cl - hs.length) (byC (List.replicate 32 0))) hs.length)
   (fun w=>RdF zc (.slice pV x.V.length cV) x.V w∧RdF zc (.slice pY x.Y.length cY) x.Y w∧RdF pfC (.slice pP x.P.length cP) x.P w∧RdF yw (.slice pN N.length cN) N w∧oy w)
   (ae5 P p q g h f sec (.slice pN N.length cN) ep gM l M hs x):=by
 have hT:=sD p q g h f sec (.slice pN N.length cN) ep gM P l;obtain⟨d,V,Y,Pr,sC,sS⟩:=x;simp only at *;have hH:=kb ep d sC sS pV pY pP cV cY cP V Y Pr (by omega) hV hY hP (by omega) (by omega) (by omega);have hC:=qx p q g h f sec pN pV pY pP cN cV cY cP N ep d V Y Pr sC sS hp hq hg hh hN hNl hf1 hf2 hs1 hs2 (by omega) hVb hYb hPr hVl hYl hPl hsC hsS;rw[he,show (none:Option Int).getD 0=0 from rfl] at hC;have hW:=aaw ep d sC sS pV pY pP cV cY cP V Y Pr (List.length_pos_iff.2 hV) (List.length_pos_iff.2 hY) (List.length_pos_iff.2 hP) (by omega) (by omega) (by omega);unfold ae5;simp only[show ddH ep ⟨d,V,Y,Pr,sC,sS⟩=yX ep d V Y Pr from rfl] at *;have hHl:(yX ep d V Y Pr).length=32:=vh _ _;have hk:=uX _ hHb hHl;have hbl:(byC (yX ep d V Y Pr)).length=32:=by rw[zh];exact hHl
 have hgl:=adH p q g h f sec (.slice pN N.length cN) ep gM l hd;have hov:=fun v=>abw p q g h f sec (.slice pN N.length cN) ep gM l hd v;have hxl:(hs.flatMap byC).length=hs.length*32:=by
  clear hld hcl hfar h0 hls
  induction hs with
  | nil=>rfl
  | cons a r ih=>rw[List.flatMap_cons,List.length_append,h32 a (by simp),ih (fun b hb=>h32 b (by simp[hb])),List.length_cons];omega
 have hfV:∀ a,pV=some a→_:=fun a e=>hfar a (.inl e);have hfY:∀ a,pY=some a→_:=fun a e=>hfar a (.inr (.inl e));have hfP:∀ a,pP=some a→_:=fun a e=>hfar a (.inr (.inr (.inl e)));have hfN:∀ a,pN=some a→_:=fun a e=>hfar a (.inr (.inr (.inr e)));generalize yX ep d V Y Pr=H at *;clear hfar;rw[hld] at hgl;refine FnL.enter Tryz.func11 rfl rfl rfl ?_;intro w hw;obtain⟨w3,w4,w5,w6,w7⟩:=hw;have hgs:(Ent.mk P 84 (plC p q g h f sec (.slice pN N.length cN) ep gM l)::mpE gM M::rwL 60 gl (hs.flatMap byC) (mkz (cl - hs.length) (byC (List.replicate 32 0))) hs.length).map Ent.g=P::gM::(rwL 60 gl (hs.flatMap byC) (mkz (cl - hs.length) (byC (List.replicate 32 0))) hs.length).map Ent.g:=rfl;rw[hgs];clear hgs;generalize hG:P::gM::(rwL 60 gl (hs.flatMap byC) (mkz (cl - hs.length) (byC (List.replicate 32 0))) hs.length).map Ent.g=GS at *;clear hG
 repeat (first|refine Ta ?_|(refine Tm ?_;intro _)|refine WO.acallR (hc:=hT) (hR:=fun wx hm=>Hs.sg hm) (k:=?_)|refine Tc ?_|exact Tz)
 rename_i gD;refine WC.adraw 8 (k:=?_)
 iterate 8 (first|refine DQ.does (fun s _=>zO rfl rfl rfl) Dp.const ?_|refine Da ?_|refine Dc ?_)
 refine DQ.anil (k:=?_);intro sx _
 repeat (first|refine WO.stores (zC (vs:=byC H) (cs':=byC H) (hl:=hbl) (h1:=zM _) (hc:=z7 (by rw[hbl];rfl)) (hle:=by rw[hbl];rfl)) ?_|refine Ta ?_|(refine Tm ?_;intro _)|refine WO.acallR (hc:=hH) (hR:=fun wx hm=>⟨w3.modH hm.mod hfV,w4.modH hm.mod hfY,w5.modH hm.mod hfP⟩) (k:=?_)|refine Tc ?_|exact Tz)
 rename_i gH;refine WC.adrawF [8] 10 (k:=?_)
 iterate 4 (first|refine Da ?_|refine Dc ?_)
 refine DQ.does (fun s _=>zy (vs:=byC H) (hc:=zz hbl) (hl:=hbl)) Dp.const ?_;refine DQ.does (fun s _=>sF vV rfl rfl (Mr.mp (by simp)) hM hk hno) Dp.const ?_
 repeat (first|refine Da ?_|refine Df ?_)
 refine DQ.anil (k:=?_);intro sx _;generalize sx 9 0=gT
 repeat (first|refine Tw ?_|(refine Tm ?_;intro _)|exact Tz)
 refine WC.adraw 7 (k:=?_)
 iterate 7 (first|refine DQ.does (fun s _=>zy (vs:=stC p q g h f sec (.slice pN N.length cN)) (hc:=rfl)) Dp.const ?_|refine DQ.acallM (hc:=hC) (hR:=fun w1 hm=>⟨⟨w6.modH hm.mod hfN,w3.modH hm.mod hfV,w4.modH hm.mod hfY,w5.modH hm.mod hfP⟩,w7.mod hm.mod h0⟩) (k:=?_)|refine Da ?_|refine Dc ?_)
 refine DQ.anil (k:=?_);intro sx _
 repeat (first|refine WO.does (zO rfl rfl rfl) ?_|refine Ta ?_|(refine Tm ?_;intro _)|refine Tc ?_|exact Tz)
 refine WC.adraw 7 (k:=?_)
 iterate 4 (first|refine Da ?_|refine Dc ?_)
 refine DQ.does (fun s _=>zy (vs:=byC H) (hc:=zz hbl) (hl:=hbl)) Dp.const ?_
 iterate 1 (first|refine Da ?_|refine Dc ?_)
 refine DQ.acallX (hc:=hW) (hR:=fun w1 hm=>⟨w3.modH hm.mod hfV,w4.modH hm.mod hfY,w5.modH hm.mod hfP⟩) (k:=?_);refine DQ.anil (k:=?_);intro sx2 _
 try simp only[List.map_cons,List.map_nil,List.cons_append,List.nil_append]
 generalize sx2 6 0=gV;generalize sx2 6 1=gY;generalize sx2 6 2=gP;generalize sx2 6 3=rV;generalize sx2 6 4=rY;generalize sx2 6 5=rP;refine WO.stores (iS vV rfl rfl rfl Pk.a hM hk hno) ?_
 repeat (first|refine Tw ?_|(refine Tm ?_;intro _)|exact Tz)
 have hcH:cut (byC H) 0 32=byC H:=zz hbl;have h1H:(byC H).length=1*(byC (List.replicate 32 0)).length:=by rw[hbl];rfl
 have hle8:Nat.ble (21+d*1+1) (plC p q g h f sec (.slice pN N.length cN) ep gM l).length=true:=by rw[Nat.ble_eq];show 21+d*1+1≤29;omega
 rcases Nat.eq_zero_or_pos hs.length with hn0|hpos
 ·obtain rfl:=List.length_eq_zero_iff.1 hn0
  try dsimp only[List.length_nil,agV,rwL] at hgl ⊢
  refine WC.mains [11,12,15,16] [(0,pt P),(1,.pointer (some ⟨gD,1,none⟩)),(2,.int .u8 (d:Int)),(3,pt P),(4,.pointer (some ⟨gD,1,none⟩)),(5,.int .u8 (d:Int)),(6,pt P),(7,.pointer (some ⟨P,21,none⟩)),(8,.pointer (some ⟨P,21+d*1,none⟩)),(9,.slice none 0 0),(10,.agg (byC H).toArray),(13,pt P),(14,.pointer (some ⟨P,21,none⟩))] (by decide) ?_
  refine WM.with [⟨gH,60,byC H⟩,⟨gD,50,dlC ep d (.slice pV V.length cV) (.slice pY Y.length cY) (.slice pP Pr.length cP) sC sS⟩,⟨P,84,plC p q g h f sec (.slice pN N.length cN) ep gM l⟩] (by kernel_rfl)
   (Tls.auto (Tls.auto (Tls.auto (Tls.auto (Tls.auto (Tls.auto (Tls.auto (Tls.auto (Tls.cons rfl (zY (i:=d) rfl rfl hd rfl) (Tls.cons rfl (zR (hc:=hgl)) (Tls.cons rfl (zy (vs:=byC H) (hc:=zz hbl) (hl:=hbl)) (Tls.auto (Tls.auto Tls.nil)))))))))))))
   (fun hc hT=>?_)
  refine WM.step (m:=11) rfl rfl hc hT ?_ (hl0:=by repeat (first|exact Lle.nil|refine Lle.c ?_));refine WO.makes (ze (cs:=byC H) rfl (by decide) (vk hbl)) ?_;intro gB;refine WO.nil (WX.wm [(61,.slice (some ⟨gB,0,none⟩) 1 1)] ?_);refine WM.step (m:=12) rfl rfl hc hT ?_ (hl0:=by repeat (first|exact Lle.nil|refine Lle.c ?_));refine WO.appNZ (z:=byC (List.replicate 32 0)) (ys:=byC H) (m:=1) rfl rfl rfl (Rds.own (m:=32) Hs.a hcH) h1H (by decide) (by decide) (by decide) (by decide) (fun g1 c1 a2 a3=>?_);refine WO.nil (WX.wm [(62,.slice (some ⟨g1,0,none⟩) (0+1) c1)] ?_);refine WM.step (m:=15) rfl rfl hc hT ?_ (hl0:=by repeat (first|exact Lle.nil|refine Lle.c ?_));refine WO.does (zY (i:=d) (o':=21+d*1) rfl rfl hd rfl) ?_;refine WO.nil (WX.wm [(65,.pointer (some ⟨P,21+d*1,none⟩))] ?_);refine WM.step (m:=16) rfl rfl hc hT ?_ (hl0:=by repeat (first|exact Lle.nil|refine Lle.c ?_));refine WO.stores (zC (vs:=[.slice (some ⟨g1,0,none⟩) (0+1) c1]) (cs':=plC p q g h f sec (.slice pN N.length cN) ep gM (aaA l d (.slice (some ⟨g1,0,none⟩) (0+1) c1))) (hc:=hov _) (hle:=hle8)) ?_;refine WO.nil (WX.wm [] ?_);refine WM.finA (m:=16) 5 hc rfl rfl (by kernel_rfl) ?_;clear hc hT
  repeat (first|refine Tw ?_|(refine Tm ?_;intro _)|exact Tz)
  exact WX.retP_of (N:=⟨P,84,plC p q g h f sec (.slice pN N.length cN) ep gM (aaA l d (.slice (some ⟨g1,0,none⟩) (0+1) c1))⟩::mpE gM (M++[(hsV H,ddV ep ⟨d,V,Y,Pr,sC,sS⟩ ⟨gV,gY,gP,rV,rY,rP⟩)])::⟨g1,60,byC H++mkz (c1 - (0+1)) (byC (List.replicate 32 0))⟩::[⟨gV,24,V.flatMap zc++mkz rV (zc 0)⟩,⟨gY,24,Y.flatMap zc++mkz rY (zc 0)⟩,⟨gP,96,Pr.flatMap pfC++mkz rP (ui 0 0)⟩])
   (ci rfl (zt rfl) (zt rfl)) (by repeat (first|exact Lle.nil|refine Lle.m ?_|refine Lle.c ?_)) ⟨g1,c1,⟨gV,gY,gP,rV,rY,rP⟩,rfl,a3,a2,by simp[ddL,ddV]⟩
 ·rw[vU hpos] at hgl;rw[vA hpos];obtain⟨r1,r2⟩:=hcl hpos;refine WC.mains [11,12,15,16] [(0,pt P),(1,.pointer (some ⟨gD,1,none⟩)),(2,.int .u8 (d:Int)),(3,pt P),(4,.pointer (some ⟨gD,1,none⟩)),(5,.int .u8 (d:Int)),(6,pt P),(7,.pointer (some ⟨P,21,none⟩)),(8,.pointer (some ⟨P,21+d*1,none⟩)),(9,.slice (some ⟨gl,0,none⟩) hs.length cl),(10,.agg (byC H).toArray),(13,pt P),(14,.pointer (some ⟨P,21,none⟩))] (by decide) ?_
  refine WM.with [⟨gH,60,byC H⟩,⟨gD,50,dlC ep d (.slice pV V.length cV) (.slice pY Y.length cY) (.slice pP Pr.length cP) sC sS⟩,⟨P,84,plC p q g h f sec (.slice pN N.length cN) ep gM l⟩] (by kernel_rfl)
   (Tls.auto (Tls.auto (Tls.auto (Tls.auto (Tls.auto (Tls.auto (Tls.auto (Tls.auto (Tls.cons rfl (zY (i:=d) rfl rfl hd rfl) (Tls.cons rfl (zR (hc:=hgl)) (Tls.cons rfl (zy (vs:=byC H) (hc:=zz hbl) (hl:=hbl)) (Tls.auto (Tls.auto Tls.nil)))))))))))))
   (fun hc hT=>?_)
  refine WM.step (m:=11) rfl rfl hc hT ?_ (hl0:=by repeat (first|exact Lle.nil|refine Lle.c ?_));refine WO.makes (ze (cs:=byC H) rfl (by decide) (vk hbl)) ?_;intro gB;refine WO.nil (WX.wm [(61,.slice (some ⟨gB,0,none⟩) 1 1)] ?_);refine WM.step (m:=12) rfl rfl hc hT ?_ (hl0:=by repeat (first|exact Lle.nil|refine Lle.c ?_));refine WO.appKZ (z:=byC (List.replicate 32 0)) (m:=1) (l:=hs.length+1) rfl rfl rfl (xs:=hs.flatMap byC) (ys:=byC H) hxl r1 Pk.a (Rds.own (m:=32) Hs.a hcH) h1H (zM _) rfl (by omega) r2 (by omega) (by decide) (by decide) (fun g1 c1 a2 a3=>?_);refine WO.nil (WX.wm [(62,.slice (some ⟨g1,0,none⟩) (hs.length+1) c1)] ?_);refine WM.step (m:=15) rfl rfl hc hT ?_ (hl0:=by repeat (first|exact Lle.nil|refine Lle.c ?_));refine WO.does (zY (i:=d) (o':=21+d*1) rfl rfl hd rfl) ?_;refine WO.nil (WX.wm [(65,.pointer (some ⟨P,21+d*1,none⟩))] ?_);refine WM.step (m:=16) rfl rfl hc hT ?_ (hl0:=by repeat (first|exact Lle.nil|refine Lle.c ?_));refine WO.stores (zC (vs:=[.slice (some ⟨g1,0,none⟩) (hs.length+1) c1]) (cs':=plC p q g h f sec (.slice pN N.length cN) ep gM (aaA l d (.slice (some ⟨g1,0,none⟩) (hs.length+1) c1))) (hc:=hov _) (hle:=hle8)) ?_;refine WO.nil (WX.wm [] ?_);refine WM.finA (m:=16) 5 hc rfl rfl (by kernel_rfl) ?_;clear hc hT
  repeat (first|refine Tw ?_|(refine Tm ?_;intro _)|exact Tz)
  exact WX.retP_of (N:=⟨P,84,plC p q g h f sec (.slice pN N.length cN) ep gM (aaA l d (.slice (some ⟨g1,0,none⟩) (hs.length+1) c1))⟩::mpE gM (M++[(hsV H,ddV ep ⟨d,V,Y,Pr,sC,sS⟩ ⟨gV,gY,gP,rV,rY,rP⟩)])::⟨g1,60,(hs.flatMap byC++byC H)++mkz (c1 - (hs.length+1)) (byC (List.replicate 32 0))⟩::[⟨gV,24,V.flatMap zc++mkz rV (zc 0)⟩,⟨gY,24,Y.flatMap zc++mkz rY (zc 0)⟩,⟨gP,96,Pr.flatMap pfC++mkz rP (ui 0 0)⟩])
   (ci rfl (zt rfl) (zt rfl)) (by repeat (first|exact Lle.nil|refine Lle.m ?_|refine Lle.c ?_)) ⟨g1,c1,⟨gV,gY,gP,rV,rY,rP⟩,rfl,a3,a2,by simp[ddL,ddV,List.flatMap_append]⟩
end
end Sx
end
section
open Go Go.RowKit Go.BigFrame
namespace Sx
attribute [local irreducible] DQ DQS WC WO WX wd
section
variable (p q g h:Nat) (f sec:Int) (ns:Value) (ep gM P:Nat) (l:Nat→Value) (M:List (Value × Value)) (H:List Nat)
theorem aef (hHb:∀ b∈H,b<256) (hHl:H.length=32) (hM:tf Tryz.prog 60 M) (hno:∀ u,(hsV H,u) ∉ M) :
  Fn Tryz.prog 14 [pt P,.agg (byC H).toArray] (fun w=>Seg w P 0 (plC p q g h f sec ns ep gM l)∧(mpE gM M).ok w) (Is (.tuple #[dlV 0 0 (.slice none 0 0) (.slice none 0 0) (.slice none 0 0) 0 0,.int .i64 7])):=by
 have hT:=sD p q g h f sec ns ep gM P l;have hk:=uX _ hHb hHl;have hbl:(byC H).length=32:=by rw[zh];exact hHl
 refine Fn.enter Tryz.func14 rfl rfl rfl ?_;intro w hw;obtain⟨w1,w2⟩:=hw
 repeat (first|refine Tw ?_|(refine Tm ?_;intro _)|exact Tz)
 rename_i gH gR;refine WO.acallR (hc:=hT) (hR:=fun wx hm=>w1.mod hm.mod (by simp)) (k:=?_)
 repeat (first|refine Tw ?_|(refine Tm ?_;intro _)|exact Tz)
 refine WC.adrawF [8] 10 (k:=?_)
 iterate 3 (first|refine Da ?_|refine Dc ?_)
 refine DQ.does (fun s _=>zi (hs:=w1) (hc:=rfl)) Dp.const ?_;refine DQ.does (fun s _=>zy (vs:=byC H) (hc:=zz hbl) (hl:=hbl)) Dp.const ?_;refine DQ.does (fun s _=>sF vV rfl rfl (pv w2 (by simp)) hM hk hno) Dp.const ?_
 repeat (first|refine Da ?_|refine Df ?_)
 refine DQ.anil (k:=?_);intro sx _;generalize sx 9 0=gT
 repeat (first|refine Tw ?_|(refine Tm ?_;intro _)|exact Tz)
 done
theorem adh (x:Dd) (b:Dk) (hHb:∀ b∈H,b<256) (hHl:H.length=32) (hM:tf Tryz.prog 60 M) (hin:(hsV H,ddV ep x b)∈M) (hV:x.V≠[]) (hY:x.Y≠[]) (hP:x.P≠[]) (hVl:x.V.length≤100) (hYl:x.Y.length≤100) (hPl:x.P.length≤100) :
  Fn Tryz.prog 14 [pt P,.agg (byC H).toArray]
   (fun w=>Seg w P 0 (plC p q g h f sec ns ep gM l)∧(mpE gM M).ok w∧RdF zc (.slice (some ⟨b.v,0,none⟩) x.V.length x.V.length) x.V w∧RdF zc (.slice (some ⟨b.y,0,none⟩) x.Y.length x.Y.length) x.Y w∧RdF pfC (.slice (some ⟨b.p,0,none⟩) x.P.length x.P.length) x.P w)
   (Ex (fun s=>.tuple #[dlV ep x.d (.slice (some ⟨s 0,0,none⟩) x.V.length x.V.length) (.slice (some ⟨s 1,0,none⟩) x.Y.length x.Y.length) (.slice (some ⟨s 2,0,none⟩) x.P.length x.P.length) x.c x.s,.int .i64 0])
    (fun s=>[⟨s 0,24,x.V.flatMap zc++mkz (s 3) (zc 0)⟩,⟨s 1,24,x.Y.flatMap zc++mkz (s 4) (zc 0)⟩,⟨s 2,96,x.P.flatMap pfC++mkz (s 5) (ui 0 0)⟩]) (fun _=>True)):=by
 have hT:=sD p q g h f sec ns ep gM P l;have hk:=uX _ hHb hHl;have hbl:(byC H).length=32:=by rw[zh];exact hHl
 have hW:=aaw ep x.d x.c x.s (some ⟨b.v,0,none⟩) (some ⟨b.y,0,none⟩) (some ⟨b.p,0,none⟩) x.V.length x.Y.length x.P.length x.V x.Y x.P (List.length_pos_iff.2 hV) (List.length_pos_iff.2 hY) (List.length_pos_iff.2 hP) (by omega) (by omega) (by omega);unfold ddV at hin;refine Fn.enter Tryz.func14 rfl rfl rfl ?_;intro w hw;obtain⟨w1,w2,w3,w4,w5⟩:=hw
 repeat (first|refine Tw ?_|(refine Tm ?_;intro _)|exact Tz)
 rename_i gH gR;refine WO.acallR (hc:=hT) (hR:=fun wx hm=>w1.mod hm.mod (by simp)) (k:=?_)
 repeat (first|refine Tw ?_|(refine Tm ?_;intro _)|exact Tz)
 refine WC.adrawF [8] 10 (k:=?_)
 iterate 3 (first|refine Da ?_|refine Dc ?_)
 refine DQ.does (fun s _=>zi (hs:=w1) (hc:=rfl)) Dp.const ?_;refine DQ.does (fun s _=>zy (vs:=byC H) (hc:=zz hbl) (hl:=hbl)) Dp.const ?_;refine DQ.does (fun s _=>tb vV rfl rfl (pv w2 (by simp)) hM hk hin) Dp.const ?_
 repeat (first|refine Da ?_|refine Df ?_)
 refine DQ.anil (k:=?_);intro sx _;generalize sx 9 0=gT
 repeat (first|refine Tw ?_|(refine Tm ?_;intro _)|exact Tz)
 refine WO.acallX (hc:=hW) (hR:=fun w1 hm=>⟨w3.mod hm.mod,w4.mod hm.mod,w5.mod hm.mod⟩) (k:=fun yy hyy=>?_);generalize yy 0=gV;generalize yy 1=gY;generalize yy 2=gP;generalize yy 3=rV;generalize yy 4=rY;generalize yy 5=rP;simp only[List.cons_append,List.nil_append]
 repeat (first|refine Tw ?_|(refine Tm ?_;intro _)|exact Tz)
 exact WX.ret2 rfl (yx rfl Hs.a rfl rfl) (zt rfl) [⟨gV,24,x.V.flatMap zc++mkz rV (zc 0)⟩,⟨gY,24,x.Y.flatMap zc++mkz rY (zc 0)⟩,⟨gP,96,x.P.flatMap pfC++mkz rP (ui 0 0)⟩] (by repeat (first|exact Lle.nil|refine Lle.c ?_)) ⟨fun j=>match j with|0=>gV|1=>gY|2=>gP|3=>rV|4=>rY|_=>rP,rfl,rfl,trivial⟩
end
theorem uQ {α:Type} {f:α→List Value} {k:Nat}:∀ {xs:List α} {i:Nat} {x:α} {r:List Value},(∀ x∈xs,(f x).length=k)→xs[i]?=some x→cut (xs.flatMap f++r) (i*k) k=f x
 | [],i,x,_,_,h=>by simp at h
 | a::xs,0,x,r,hk,h=>by
  have e:a=x:=by simpa using h
  subst e;rw[Nat.zero_mul,List.flatMap_cons,List.append_assoc];unfold cut;rw[List.drop_zero,← hk a (by simp),List.take_left]
 | a::xs,i+1,x,r,hk,h=>by
  have:=uQ (r:=r) (fun y hy=>hk y (by simp[hy])) (show xs[i]?=some x by simpa using h);rw[List.flatMap_cons,List.append_assoc,Nat.succ_mul];unfold cut at this ⊢;rw[Nat.add_comm (i*k) k,← List.drop_drop,← hk a (by simp),List.drop_left,hk a (by simp)];exact this
def rk (fnd:List Nat→Option Nat):Nat→List (List Nat)→Bool
 | _,[]=>true
 | last,h::r=>match fnd h with
  | none=>false
  | some d=>decide (last<d) && rk fnd d r
theorem qb {fnd:List Nat→Option Nat} {last:Nat} {h:List Nat} {r:List (List Nat)}:rk fnd last (h::r)=(match fnd h with|none=>false|some d=>decide (last<d) && rk fnd d r):=rfl
section
variable (p q g h:Nat) (f sec:Int) (pN:Option Addr) (cN n:Nat) (ep gM P:Nat) (l:Nat→Value) (M:List (Value × Value)) (pl:Option Addr) (cl:Nat) (hs:List (List Nat)) (fnd:List Nat→Option Nat)
theorem aa4 (hb:∀ H∈hs,(∀ b∈H,b<256)∧H.length=32) (hM:tf Tryz.prog 60 M) (hN:∀ H∈hs,fnd H=none→∀ u,(hsV H,u) ∉ M) (hY:∀ H∈hs,∀ d,fnd H=some d→∃ x b,x.d=d∧d<256∧(hsV H,ddV ep x b)∈M) (hl:hs.length<1000000)
  (hf1 : -9223372036854775808≤(n:Int) - f) (hf2:(n:Int) - f≤9223372036854775807) :
  Fn Tryz.prog 16 [pt P,.slice pl hs.length cl] (fun w=>Seg w P 0 (plC p q g h f sec (.slice pN n cN) ep gM l)∧(mpE gM M).ok w∧RdF byC (.slice pl hs.length cl) hs w) (Is (.bool (rk fnd 0 hs && decide ((n:Int) - f≤(hs.length:Int))))):=by
 have hT:=sD p q g h f sec (.slice pN n cN) ep gM P l;have hE:=kY p q g h f sec ep gM P l pN n cN hs.length hf1 hf2;have h32:∀ H∈hs,(byC H).length=32:=fun H hH=>by rw[zh];exact (hb H hH).2
 refine Fn.enter Tryz.func16 rfl rfl rfl ?_;intro w hw;obtain⟨w1,w2,w3⟩:=hw
 repeat (first|refine Ta ?_|(refine Tm ?_;intro _)|refine WO.acallR (hc:=hT) (hR:=fun wx hm=>w1.mod hm.mod (by simp)) (k:=?_)|refine Tc ?_|exact Tz)
 refine WC.loopI (σ:=Nat × Nat) (fun s=>s.1≤hs.length∧s.2<256∧rk fnd 0 hs=rk fnd s.2 (hs.drop s.1)) (fun s=>[(0,Sx.pt P),(1,.slice pl hs.length cl),(5,.int .u8 (s.2:Int)),(13,.slice pl hs.length cl),(14,.int .i64 (hs.length:Int)),(15,.int .i64 (s.1:Int))])
  (fun _=>[]) (fun s=>hs.length - s.1) (0,0) (fun s hi=>?_) ⟨Nat.zero_le _,by decide,rfl⟩
 obtain⟨i,last⟩:=s
 try dsimp only at hi ⊢
 obtain⟨hi,hla,hse⟩:=hi
 by_cases hlt:i<hs.length
 ·obtain⟨H,hH⟩ : ∃ H,hs[i]?=some H:=⟨_,List.getElem?_eq_getElem hlt⟩;have hHm:=List.mem_of_getElem? hH;have hbl:=h32 H hHm;have hk:=uX H (hb H hHm).1 (hb H hHm).2;have hadd:IntKind.i64.wrap ((i:Int)+1)=((i+1:Nat):Int):=zr (by omega) (by omega) (by omega);obtain⟨b,o,rfl,_,hsg⟩:=id w3 |>.get hH
  have hci:cut (hs.flatMap byC) (o+i*32 - o) 32=byC H:=by
   rw[Nat.add_sub_cancel_left];have:=uQ (r:=[]) h32 hH;rwa [List.append_nil] at this
  have hdr:hs.drop i=H::hs.drop (i+1):=by rw[List.drop_eq_getElem_cons hlt];congr 1;exact (List.getElem?_eq_some_iff.1 hH).2
  rw[hdr] at hse;rw[qb] at hse;cases hfd:fnd H with
  | none =>
   have hno:=hN H hHm hfd;rw[hfd] at hse;rw[show rk fnd 0 hs=false from hse,Bool.false_and]
   repeat (first|refine Tw ?_|(refine Tm ?_;intro _)|exact Tz)
   refine WC.dT rfl (by omega) ?_
   repeat (first|refine WO.does (zb (o':=o+i*32) rfl rfl hlt rfl) ?_|refine WO.does (zn (vs:=byC H) (hs:=hsg) (hle:=Nat.le_add_right _ _) (hc:=hci) (hl:=hbl)) ?_|refine WO.stores (zC (vs:=byC H) (cs':=byC H) (hl:=hbl) (h1:=zM _) (hc:=z7 (by rw[hbl];rfl)) (hle:=by rw[hbl];rfl)) ?_|refine Ta ?_|(refine Tm ?_;intro _)|refine Tc ?_|exact Tz)
   refine WC.adrawF [8] 10 (k:=?_)
   iterate 3 (first|refine Da ?_|refine Dc ?_)
   refine DQ.does (fun s _=>zi (hs:=w1) (hc:=rfl)) Dp.const ?_;refine DQ.does (fun s _=>zy (vs:=byC H) (hc:=zz hbl) (hl:=hbl)) Dp.const ?_;refine DQ.does (fun s _=>sF vV rfl rfl (pv w2 (by simp)) hM hk hno) Dp.const ?_
   repeat (first|refine Da ?_|refine Df ?_)
   refine DQ.anil (k:=?_);intro sx _;generalize sx 9 0=gT
   repeat (first|refine Tw ?_|(refine Tm ?_;intro _)|exact Tz)
   done
  | some d =>
   obtain⟨x,bk,hxd,hd8,hin⟩:=hY H hHm d hfd;unfold ddV at hin;rw[hxd] at hin;rw[hfd] at hse
   by_cases hdl:last<d
   case neg =>
    have hle:((d:Nat):Int)≤(last:Int):=by omega
    rw[show rk fnd 0 hs=false by rw[hse];show (decide (last<d) && _)=false;rw[decide_eq_false hdl];rfl,Bool.false_and]
    repeat (first|refine Tw ?_|(refine Tm ?_;intro _)|exact Tz)
    refine WC.dT rfl (by omega) ?_
    repeat (first|refine WO.does (zb (o':=o+i*32) rfl rfl hlt rfl) ?_|refine WO.does (zn (vs:=byC H) (hs:=hsg) (hle:=Nat.le_add_right _ _) (hc:=hci) (hl:=hbl)) ?_|refine WO.stores (zC (vs:=byC H) (cs':=byC H) (hl:=hbl) (h1:=zM _) (hc:=z7 (by rw[hbl];rfl)) (hle:=by rw[hbl];rfl)) ?_|refine Ta ?_|(refine Tm ?_;intro _)|refine Tc ?_|exact Tz)
    refine WC.adrawF [8] 10 (k:=?_)
    iterate 3 (first|refine Da ?_|refine Dc ?_)
    refine DQ.does (fun s _=>zi (hs:=w1) (hc:=rfl)) Dp.const ?_;refine DQ.does (fun s _=>zy (vs:=byC H) (hc:=zz hbl) (hl:=hbl)) Dp.const ?_;refine DQ.does (fun s _=>tb vV rfl rfl (pv w2 (by simp)) hM hk hin) Dp.const ?_
    repeat (first|refine Da ?_|refine Df ?_)
    refine DQ.anil (k:=?_);intro sx _;generalize sx 9 0=gT
    repeat (first|refine WO.does (ml rfl rfl hle) ?_|refine Ta ?_|(refine Tm ?_;intro _)|refine Tc ?_|exact Tz)
    done
   have hle:¬ ((d:Nat):Int)≤(last:Int):=by omega
   have hse2:rk fnd 0 hs=rk fnd d (hs.drop (i+1)):=by rw[hse];show (decide (last<d) && _)=_;rw[decide_eq_true hdl];rfl
   repeat (first|refine Tw ?_|(refine Tm ?_;intro _)|exact Tz)
   refine WC.dT rfl (by omega) ?_
   repeat (first|refine WO.does (zb (o':=o+i*32) rfl rfl hlt rfl) ?_|refine WO.does (zn (vs:=byC H) (hs:=hsg) (hle:=Nat.le_add_right _ _) (hc:=hci) (hl:=hbl)) ?_|refine WO.stores (zC (vs:=byC H) (cs':=byC H) (hl:=hbl) (h1:=zM _) (hc:=z7 (by rw[hbl];rfl)) (hle:=by rw[hbl];rfl)) ?_|refine Ta ?_|(refine Tm ?_;intro _)|refine Tc ?_|exact Tz)
   refine WC.adrawF [8] 10 (k:=?_)
   iterate 3 (first|refine Da ?_|refine Dc ?_)
   refine DQ.does (fun s _=>zi (hs:=w1) (hc:=rfl)) Dp.const ?_;refine DQ.does (fun s _=>zy (vs:=byC H) (hc:=zz hbl) (hl:=hbl)) Dp.const ?_;refine DQ.does (fun s _=>tb vV rfl rfl (pv w2 (by simp)) hM hk hin) Dp.const ?_
   repeat (first|refine Da ?_|refine Df ?_)
   refine DQ.anil (k:=?_);intro sx _;generalize sx 9 0=gT
   repeat (first|refine WO.does (mQ rfl rfl hle) ?_|refine WO.does (zl rfl rfl hadd) ?_|refine Ta ?_|(refine Tm ?_;intro _)|refine Tc ?_|exact Tz)
   exact WX.metI (i+1,d) (hs:=⟨⟨by show i+1≤hs.length;omega,hd8,hse2⟩,by show hs.length - (i+1)<hs.length - i;omega⟩)
 ·have hi3:i=hs.length:=by omega
  subst hi3;rw[List.drop_length] at hse;rw[show rk fnd 0 hs=true from hse,Bool.true_and]
  repeat (first|refine Tw ?_|(refine Tm ?_;intro _)|exact Tz)
  refine WC.dF rfl (by omega) ?_
  repeat (first|refine Ta ?_|(refine Tm ?_;intro _)|refine WO.acallR (hc:=hE) (hR:=fun wx hm=>w1.mod hm.mod (by simp)) (k:=?_)|refine Tc ?_|exact Tz)
  done
end
end Sx
end
section
open Go Go.RowKit Go.BigFrame
namespace Sx
attribute [local irreducible] DQ DQS WC WO wd
theorem abX (P:Nat):Fn Tryz.prog 28 [pt P] Tr (Ex (fun s=>.func (.func 70) #[] #[pt (s 0)]) (fun s=>[⟨s 0,41,[pt P]⟩]) (fun _=>True)):=by
 refine Fn.enter Tryz.func28 rfl rfl rfl ?_;intro w hw
 repeat (first|refine Ta ?_|(refine Tm ?_;intro _)|refine WO.does (zW rfl rfl) ?_|refine Tc ?_|exact Tz)
 rename_i g1;exact WX.ret1 rfl (zt rfl) [⟨g1,41,[pt P]⟩] (Lle.cons Pk.here rfl Lle.nil) ⟨fun _=>g1,rfl,rfl,trivial⟩
def tD {α:Type} (hk:Nat→List α) (k:Nat):List α:=(List.range k).flatMap hk
theorem qw {α:Type} (hk:Nat→List α) (k:Nat):tD hk (k+1)=tD hk k++hk k:=by
 unfold tD;rw[List.range_succ,List.flatMap_append];simp
theorem gJ {α:Type} (hk:Nat→List α) (k:Nat):∀ j,k≤j→(tD hk k).length≤(tD hk j).length
  | 0, h => by obtain rfl : k = 0 := by omega
               exact Nat.le_refl _
  | j+1,h=>by
    rcases Nat.lt_or_ge j k with h1|h1
    · obtain rfl:k=j+1:=by omega
      exact Nat.le_refl _
    · rw[qw,List.length_append];exact Nat.le_trans (gJ hk k j h1) (Nat.le_add_right _ _)
theorem aa6 {α:Type} {hk:Nat→List α} {k i:Nat} (h:k<8) (hi:i<(hk k).length):(tD hk k++(hk k).take i).length<(tD hk 8).length:=by
 have:=gJ hk (k+1) 8 h;rw[qw,List.length_append] at this;rw[List.length_append,List.length_take];omega
theorem ack (l:Nat→Value):∀ k,k<8→[l 0,l 1,l 2,l 3,l 4,l 5,l 6,l 7][k]?=some (l k)
 | 0,_=>rfl
 | 1,_=>rfl
 | 2,_=>rfl
 | 3,_=>rfl
 | 4,_=>rfl
 | 5,_=>rfl
 | 6,_=>rfl
 | 7,_=>rfl
 | n+8,h=>absurd h (by omega)
theorem all_in (m:Nat) {α:Type} (fi:α→Nat) (fh:α→List Nat) (hk:Nat→List α) (pk:Nat→Option Addr) (bk ck:Nat→Nat) (BS:List Nat) (p q g h:Nat) (f sec:Int) (ns:Value) (ep gM P gB l:Nat) (lv:Nat→Value) (J Jx:List α→World→Prop)
  (hJo:∀ s A B,J s A→Mod [] A B→J s B) (hJxo:∀ s A B,Jx s A→Mod [] A B→Jx s B)
  (hY:∀ pre x W,J pre W→pre.length<(tD hk 8).length→YieldAt (fw none) (m - 1) Tryz.prog l #[.int .i64 (fi x:Int),hsV (fh x)] W fun e W'=>(e=.returned (.bool true)∧J (pre++[x]) W'∧zT BS W W'∧W.heap.size≤W'.heap.size)∨(e=.returned (.bool false)∧Jx (pre++[x]) W'))
  (W:World) (hlv:∀ k,k<8→lv k=.slice (pk k) (hk k).length (ck k)) (hn:∀ k,(hk k).length<1000000) (hb:∀ x,(byC (fh x)).length=32)
  (hB:Seg W gB 0 [pt P]) (hP:Seg W P 0 (plC p q g h f sec ns ep gM lv)) (hpa:∀ k,k<8→hk k≠[]→pk k=some ⟨bk k,0,none⟩∧bk k∈BS) (hfi:∀ k i x,k<8→(hk k)[i]?=some x→fi x=i) (hS:∀ k i x,k<8→(hk k)[i]?=some x→Seg W (bk k) (0+i*32) (byC (fh x))) (hlt:∀ k∈BS,k<W.heap.size) (h0:J [] W) :
  CallsIn (fw none) m Tryz.prog 70 [.func (.yield l) #[] #[],pt gB].toArray W fun e W'=>(∃ v,e=.returned v)∧((∃ ys,ys=tD hk 8∧J ys W')∨(∃ pre,True∧Jx pre W')):=by
 refine vo (n:=28) Tryz.func70 rfl rfl rfl ?_;have hQ:¬ LetsOut (bodyPost Tryz.prog Tryz.f70 fun e W'=>(∃ v,e=.returned v)∧((∃ ys,ys=tD hk 8∧J ys W')∨(∃ pre,True∧Jx pre W'))):=by
  rintro ⟨a,w,⟨v,h⟩,_⟩;cases h
 refine WI.seq (WI.region ?_ (by exact hQ));refine WO.does (zi (hs:=hB)) ?_;refine WO.auto (k:=?_);refine WO.auto (k:=?_);refine WO.does (zn (vs:=[lv 0,lv 1,lv 2,lv 3,lv 4,lv 5,lv 6,lv 7]) (hs:=hP) (hc:=rfl)) ?_;refine WO.auto (k:=?_);refine WO.nil (WX.seqI ?_);refine WI.block ?_;refine WI.loopW (σ:=Nat) (fun k=>[(0,.func (.yield l) #[] #[]),(10,.agg [lv 0,lv 1,lv 2,lv 3,lv 4,lv 5,lv 6,lv 7].toArray),(11,.int .i64 (k:Int))]) (fun k w=>k≤8∧J (tD hk k) w∧zT BS W w∧W.heap.size≤w.heap.size) (fun k=>8 - k) 0 (fun w hw=>⟨Nat.zero_le _,?_,?_,hw.mod.size⟩) ?_ ?_
 ·exact hJo [] W w h0 hw.mod
 ·exact zT.of_mod hw.mod (fun k hk=>⟨hlt k hk,by simp⟩)
 ·repeat (first|exact Kle.nil|refine Kle.cons rfl rfl ?_)
 ·rintro k w1 ⟨hk8,hJ,hKp,hsz⟩;refine WI.seq (WI.region ?_ (by exact hQ));refine WO.auto (k:=?_);refine WO.nil (WX.seqI ?_);refine WI.seq ?_
  by_cases hkl:k<8
  ·refine WI.condT (show some (Value.bool (decide ((k:Int)<8)))=some (Value.bool true) by rw[decide_eq_true (by omega)]) ?_;refine WI.skip (WX.seqI ?_);have ek:=hlv k hkl;have hnk:=hn k;refine WI.seq ?_;refine WI.block ?_;refine WI.seq (WI.region ?_ (by exact hQ));refine WO.does (rM rfl rfl hkl rfl (ack lv k hkl)) ?_;refine WO.auto (k:=?_);refine WO.nil (WX.seqI ?_);rw[ek];refine WI.seq (WI.region ?_ (by exact hQ));refine WO.auto (k:=?_);refine WO.auto (k:=?_);refine WO.auto (k:=?_);refine WO.nil (WX.seqI ?_);refine WI.block ?_;refine WI.loopW (σ:=Nat) (fun i=>[(0,.func (.yield l) #[] #[]),(10,.agg [lv 0,lv 1,lv 2,lv 3,lv 4,lv 5,lv 6,lv 7].toArray),(11,.int .i64 (k:Int)),(14,.slice (pk k) (hk k).length (ck k)),(15,.int .i64 ((hk k).length:Int)),(16,.int .i64 (i:Int))]) (fun i w=>i≤(hk k).length∧J (tD hk k++(hk k).take i) w∧zT BS W w∧W.heap.size≤w.heap.size) (fun i=>(hk k).length - i) 0 (fun w hw=>⟨Nat.zero_le _,?_,?_,Nat.le_trans hsz hw.mod.size⟩) ?_ ?_
   ·have:=hJo _ w1 w hJ hw.mod;simpa using this
   ·exact hKp.trans (zT.of_mod hw.mod (fun k hk=>⟨Nat.lt_of_lt_of_le (hlt k hk) hsz,by simp⟩))
   ·repeat (first|exact Kle.nil|refine Kle.cons rfl rfl ?_)
   ·clear hJ hKp hsz;rintro i w1 ⟨hi,hJ,hKp,hsz⟩;have hlw:∀ j∈BS,j<w1.heap.size:=fun j hj=>Nat.lt_of_lt_of_le (hlt j hj) hsz;refine WI.seq (WI.region ?_ (by exact hQ));refine WO.auto (k:=?_);refine WO.nil (WX.seqI ?_);refine WI.seq ?_
    by_cases hil:i<(hk k).length
    ·refine WI.condT (show some (Value.bool (decide ((i:Int)<((hk k).length:Int))))=some (Value.bool true) by rw[decide_eq_true (by omega)]) ?_;refine WI.skip (WX.seqI ?_);obtain⟨x,hx⟩ : ∃ x,(hk k)[i]?=some x:=⟨_,List.getElem?_eq_getElem hil⟩;obtain⟨epk,hbm⟩:=hpa k hkl (by rintro e;rw[e] at hil;simp at hil);have hS':=hKp.seg (b:=bk k) hbm (hS k i x hkl hx);have hfx:=hfi k i x hkl hx;have hbx:=hb x;have hx' : (tD hk k++(hk k).take i)++[x]=tD hk k++(hk k).take (i+1):=by rw[List.append_assoc,List.take_add_one,hx];rfl
     have hlX:=aa6 hkl hil;have e1:IntKind.i64.wrap ((i:Int)+1)=((i+1:Nat):Int):=zr (by omega) (by omega) (by omega);rw[epk];refine WI.seq ?_;refine WI.block ?_;refine WI.seq (WI.region ?_ (by exact hQ));refine WO.auto (k:=?_);refine WO.does (zb (o':=0+i*32) rfl rfl hil rfl) ?_;refine WO.does (zn (vs:=byC (fh x)) (hs:=hS') (hle:=Nat.le_refl _) (hc:=by rw[Nat.sub_self];exact zz hbx) (hl:=hbx)) ?_;(refine Tm ?_;intro gH);refine WO.auto (k:=?_);refine WO.stores (zC (vs:=byC (fh x)) (cs':=byC (fh x)) (hl:=hbx) (h1:=zM _) (hc:=z7 (by rw[hbx];rfl)) (hle:=by rw[hbx];rfl)) ?_;refine WO.nil (WX.seqI ?_);refine WI.seq (WI.regionY 3 (by exact hQ) ?_);simp only[List.take_succ_cons,List.take_zero,List.drop_succ_cons,List.drop_zero];refine WO.does (yV rfl) ?_;refine WO.does (yV rfl) ?_;refine WO.does (zy (vs:=byC (fh x)) (hc:=zz hbx) (hl:=hbx)) ?_;refine WO.nil (WX.woi ?_);refine WOI.yield (vs:=[.int .i64 (i:Int),hsV (fh x)]) rfl rfl (fun w2 h2=>hfx ▸ hY (tD hk k++(hk k).take i) x w2 (hJo _ _ _ hJ h2.mod) hlX) (fun w2 e w3 h2 hR=>?_);have hKw:zT BS W w2:=hKp.trans (zT.of_mod h2.mod (fun j hj=>⟨hlw j hj,by simp⟩));have hs2:=Nat.le_trans hsz h2.mod.size
     rcases hR with ⟨rfl,hR,hK3,hs3⟩|⟨rfl,hR⟩
     ·refine⟨true,rfl,?_⟩;rw[hx'] at hR;refine WOI.of (by exact hQ) ?_;refine WO.auto (k:=?_);refine WO.nil (WX.seqI ?_);refine WI.condF rfl ?_;refine WI.skip (WX.blk_normal (WX.seqI ?_));refine WI.region ?_ (by exact hQ);refine WO.does (zl rfl rfl e1) ?_;refine WO.auto (k:=?_);refine WO.nil ?_;refine WX.metW (i+1) (by omega) (by repeat (first|exact Kle.nil|refine Kle.cons rfl rfl ?_)) (fun w4 h4=>⟨by omega,hJo _ _ _ hR h4.mod,?_,Nat.le_trans hs2 (Nat.le_trans hs3 h4.mod.size)⟩);exact (hKw.trans hK3).trans (zT.of_mod h4.mod (fun j hj=>⟨Nat.lt_of_lt_of_le (hlt j hj) (Nat.le_trans hs2 hs3),by simp⟩))
     ·refine⟨false,rfl,?_⟩;rw[hx'] at hR;refine WOI.of (by exact hQ) ?_;refine WO.auto (k:=?_);refine WO.nil (WX.seqI ?_);refine WI.condT rfl ?_;refine WI.ret ?_;refine WX.blk_ret (WX.then_ret (WX.then_ret (WX.blk_ret (WX.blk_ret (WX.then_ret (WX.then_ret (WX.blk_ret ?_)))))));intro a w4 g1 g2 g3 g4;exact bodyPost_ret (results_none rfl _ _ _) g1 ⟨⟨_,rfl⟩,.inr ⟨_,trivial,hJxo _ _ _ hR g4.mod⟩⟩
    ·refine WI.condF (show some (Value.bool (decide ((i:Int)<((hk k).length:Int))))=some (Value.bool false) by rw[decide_eq_false (by omega)]) ?_;refine WI.exit (WX.then_exit (WX.then_exit (WX.blk_exit ?_)));obtain rfl:i=(hk k).length:=by omega
     rw[List.take_length,← qw] at hJ;have e1:IntKind.i64.wrap ((k:Int)+1)=((k+1:Nat):Int):=zr (by omega) (by omega) (by omega);refine WX.blk_normal (WX.seqI ?_);refine WI.region ?_ (by exact hQ);refine WO.does (zl rfl rfl e1) ?_;refine WO.auto (k:=?_);refine WO.nil ?_;refine WX.metW (k+1) (by omega) (by repeat (first|exact Kle.nil|refine Kle.cons rfl rfl ?_)) (fun w4 h4=>⟨by omega,hJo _ _ _ hJ h4.mod,?_,Nat.le_trans hsz h4.mod.size⟩);exact hKp.trans (zT.of_mod h4.mod (fun j hj=>⟨hlw j hj,by simp⟩))
  ·refine WI.condF (show some (Value.bool (decide ((k:Int)<8)))=some (Value.bool false) by rw[decide_eq_false (by omega)]) ?_;refine WI.exit (WX.then_exit (WX.then_exit (WX.blk_exit ?_)));intro a w4 g1 g2 g3 g4;obtain rfl:k=8:=by omega
   exact bodyPost_end (results_none rfl _ _ _) g1 ⟨⟨_,rfl⟩,.inl ⟨_,rfl,hJo _ _ _ hJ g4.mod⟩⟩
end Sx
end
section
open Go Go.RowKit Go.BigFrame
namespace Sx
theorem qZ {P:Program} {m:Nat} {fn:Func} {post:Value→List Ent→Prop} {w W:World} {K:List (Nat × Value)} {L N:List Ent} {v:Value} {a:Act} {D:Nat} {ds:List Deferred} (hd:ds=[{ target:=.collected D,args:=#[] }]) (hk:Kn K a) (hme:Me w [] L W) (hD:w.heap.size≤D) (hK:W.heap[D]?=some (.deferred (some [])))
  (hm:∀ e∈L,e.k.map=false) (hv:∀ a w',Kn K a→Me w [] L w'→(results fn a.tmps).run P w'=.ok v w') (hN:Lle N L) (hp:post v N):LeavesInM Fence.wide m P fn a.tmps (uz w post) ds .returning W:=by
 subst hd;refine⟨by simp,.inl ⟨_,_,rfl,run_takeDeferred hK,?_⟩⟩;have hne:∀ e∈L,e.g≠D:=fun e he h=>(hme.ok e he).far (hm e he) (by rw[h];exact hK) rfl;have hb:=hme.mod.below.trans (belowK_b (w:=w) (Nat.le_refl _) W D _ (.deferred none) hD hK rfl rfl);have h3:Me w [] L (W.putObj D (.deferred none)):=⟨.of_below hb [],fun e he=>(hme.ok e he).keep (World.putObj_heap_other (hne e he)),hme.mine,hme.nodup⟩;have hn:=hN.me h3;exact⟨v,hv a _ hk h3,v,N,rfl,hb,⟨hn.ok,fun e he=>(hn.mine e he).resolve_right (by simp),hn.nodup⟩,hp⟩
theorem WO.tailR {P:Program} {w0:World} {gs:List Nat} {n:Nat} {Q:Exit→Act→World→Prop} {K:List (Nat × Value)} {L:List Ent} {ds:List Deferred} {id:Nat} {l:List Oper} {a:Act} {w:World} (hd:a.defers=ds) (hs:a.tmps.size=n) (hk:Kn K a) (hm:Me w0 gs L w)
  (k:WO P w0 gs n l (fun e a w=>Q e (dfA ds a) w) K L l):(Code.region id l.toArray false).wp P Q a w:=by
 refine wp_region_lit ?_;have e:a=dfA ds { tmps:=a.tmps,defers:=[] }:=by
  cases a;subst hd;rfl
 rw[e];exact v6 ds (k { tmps:=a.tmps,defers:=[] } w rfl hs hk hm)
def zQ {α:Type} (fi:α→Nat) (fh:α→List Nat) (xs:List α):List (List Nat):=(xs.filter fun x=>fi x == 0).map fh
theorem m6 {α:Type} (fi:α→Nat) (fh:α→List Nat) (xs:List α) (x:α):zQ fi fh (xs++[x])=zQ fi fh xs++(if fi x=0 then [fh x] else []):=by
 unfold zQ;rw[List.filter_append,List.map_append];congr 1
 by_cases h:fi x=0
 ·rw[if_pos h];simp[h]
 ·rw[if_neg h];simp[h]
theorem ei {α:Type} (fi:α→Nat) (fh:α→List Nat) (xs:List α):(zQ fi fh xs).length≤xs.length:=by
 unfold zQ;rw[List.length_map];exact List.length_filter_le _ _
theorem all_stops (m:Nat) {α:Type} (fi:α→Nat) (fh:α→List Nat) (hk:Nat→List α) (pk:Nat→Option Addr) (bk ck:Nat→Nat) (BS:List Nat) (p q g h:Nat) (f sec:Int) (ns:Value) (ep gM P gB:Nat) (lv:Nat→Value) (w:World) (hgB:gB∈BS) (hPB:P∈BS)
  (hlv:∀ k,k<8→lv k=.slice (pk k) (hk k).length (ck k)) (hn:∀ k,(hk k).length<1000000) (hb:∀ x,(byC (fh x)).length=32)
  (hB:Seg w gB 0 [pt P]) (hP:Seg w P 0 (plC p q g h f sec ns ep gM lv)) (hpa:∀ k,k<8→hk k≠[]→pk k=some ⟨bk k,0,none⟩∧bk k∈BS) (hfi:∀ k i x,k<8→(hk k)[i]?=some x→fi x=i) (hS:∀ k i x,k<8→(hk k)[i]?=some x→Seg w (bk k) (0+i*32) (byC (fh x))) (hlt:∀ k∈BS,k<w.heap.size) :
  SeqStopsK Fence.wide m Tryz.prog 70 #[pt gB] (fun x:α=>#[.int .i64 (fi x:Int),hsV (fh x)]) (KpB BS) (fun ys=>ys=tD hk 8) (fun _=>True) (tD hk 8).length w:=fun l J Jx W hW hJ hJx hY h0=>by
 have hk1:zT BS w W:=fun k hk=>hW.block k (hlt k hk)
 refine all_in m fi fh hk pk bk ck BS p q g h f sec ns ep gM P gB l lv J Jx (fun s A B h hm=>hJ s A B none h ⟨hm.os,hm.tape,hm.output,hm.size,fun k hk _=>hm.block k hk (by simp)⟩ (by simp)) (fun s A B h hm=>hJx s A B none h ⟨hm.os,hm.tape,hm.output,hm.size,fun k hk _=>hm.block k hk (by simp)⟩ (by simp))
  hY W hlv hn hb (hk1.seg hgB hB) (hk1.seg hPB hP) hpa hfi (fun k i x h1 h2=>hk1.seg (hpa k h1 (by rintro e;rw[e] at h2;simp at h2)).2 (hS k i x h1 h2)) (fun k hk=>Nat.lt_of_lt_of_le (hlt k hk) hW.size) h0
end Sx
end
end Go.Proofs.YteibfbjpkjkejaaGreatDoor
