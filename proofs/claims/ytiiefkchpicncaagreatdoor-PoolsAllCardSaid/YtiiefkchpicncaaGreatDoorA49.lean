/- Part 49 of the proof. -/
import Derived.Test.YtiiefkchpicncaaGreatDoorA48
set_option linter.unusedSimpArgs false
set_option linter.unusedVariables false
set_option maxHeartbeats 8000000
namespace Go.Proofs.YtiiefkchpicncaaGreatDoor
section
open Go Go.RowKit Go.BigFrame
namespace Sx
attribute [local irreducible] DQ WC WO WX wd
section
variable (p q g h:Nat) (f sec:Int) (pN:Option Addr) (cN:Nat) (N:List (Nat × Nat)) (ep gM P:Nat) (l:Nat→Value) (e d sC sS:Nat) (pV pY pP:Option Addr) (cV cY cP:Nat) (V Y:List Nat) (Pr:List (Nat × Nat)) (M:List (Value × Value))
section
variable (hHb:∀ b∈yN ep d V Y Pr,b<256) (hV:V≠[]) (hY:Y≠[]) (hP:Pr≠[]) (hVl:V.length≤100) (hYl:Y.length≤100) (hPl:Pr.length≤100) (hd:d<256) (hM:uI Tryz.prog 53 M)
include hHb hV hY hP hVl hYl hPl hd hM
theorem ab0 {e1 d1 c1 s1:Nat} {a1 a2 a3:Option Addr} {n1 n2 n3 k1 k2 k3:Nat} (hin:(hsV (yN ep d V Y Pr),dlV e1 d1 (.slice a1 n1 k1) (.slice a2 n2 k2) (.slice a3 n3 k3) c1 s1)∈M) :
  Fn Tryz.prog 12 [pt P,dlV ep d (.slice pV V.length cV) (.slice pY Y.length cY) (.slice pP Pr.length cP) sC sS]
   (fun w=>Seg w P 0 (plC p q g h f sec (.slice pN N.length cN) ep gM l)∧(mpE gM M).ok w∧RdF zb (.slice pV V.length cV) V w∧RdF zb (.slice pY Y.length cY) Y w∧RdF pfC (.slice pP Pr.length cP) Pr w) (Is (.tuple #[.bool false,.int .i64 0])):=by
 have hT:=sa p q g h f sec (.slice pN N.length cN) ep gM P l;have hH:=u9 ep d sC sS pV pY pP cV cY cP V Y Pr hd hV hY hP Om Om Om;have hHl:(yN ep d V Y Pr).length=32:=yW _ _;have hk:=uQ _ hHb hHl;have hbl:(byC (yN ep d V Y Pr)).length=32:=by rw[ze];exact hHl
 generalize yN ep d V Y Pr=H at *;refine Fn.enter Tryz.func12 rfl rfl rfl ?_;intro w hw;obtain⟨w1,w2,w3,w4,w5⟩:=hw
 repeat (first|refine Ta ?_|(refine Tm ?_;intro _)|refine WO.acallR (hc:=hT) (hR:=fun wx hm=>w1.mod hm.mod (by simp)) (k:=?_)|refine Tc ?_|exact Tz)
 refine WC.adraw 8 (k:=?_)
 iterate 8 (first|refine DQ.does (fun s _=>zl (hs:=w1) (hc:=rfl)) Dp.const ?_|refine DQ.does (fun s _=>zB rfl rfl rfl) Dp.const ?_|refine Da ?_|refine Dc ?_)
 refine DQ.anil (k:=?_);intro sx _
 repeat (first|refine WO.stores (zz (vs:=byC H) (cs':=byC H) (hl:=hbl) (h1:=zT _) (hc:=zU (by rw[hbl];rfl)) (hle:=by rw[hbl];rfl)) ?_|refine Ta ?_|(refine Tm ?_;intro _)|refine WO.acallR (hc:=hH) (hR:=fun wx hm=>⟨w3.mod hm.mod,w4.mod hm.mod,w5.mod hm.mod⟩) (k:=?_)|refine Tc ?_|exact Tz)
 refine WC.adrawF [8] 10 (k:=?_)
 iterate 3 (first|refine Da ?_|refine Dc ?_)
 refine DQ.does (fun s _=>zl (hs:=w1) (hc:=rfl)) Dp.const ?_;refine DQ.does (fun s _=>zH (vs:=byC H) (hc:=zA hbl) (hl:=hbl)) Dp.const ?_;refine DQ.does (fun s _=>uR yS rfl rfl (r7 w2 (by simp)) hM hk hin) Dp.const ?_
 repeat (first|refine Da ?_|refine Df ?_)
 refine DQ.anil (k:=?_);intro sx _;generalize sx 9 0=gT
 repeat (first|refine Tw ?_|(refine Tm ?_;intro _)|exact Tz)
 done
end
end
end Sx
end
section
open Go Go.RowKit Go.BigFrame
namespace Sx
attribute [local irreducible] DQ WC WO WT WX wd
theorem RdF.modH {α:Type} {f:α→List Value} {pt:Option Addr} {n c:Nat} {xs:List α} {w w' : World} {gs:List Nat} (h:RdF f (.slice pt n c) xs w) (hm:Mod gs w w') (hb:∀ a,pt=some a→a.block ∉ gs):RdF f (.slice pt n c) xs w':=by
 obtain⟨p,c',e,h1⟩:=h;cases e;refine⟨_,_,rfl,?_⟩
 rcases h1 with h1|⟨b,o,rfl,hs⟩
 ·exact .inl h1
 ·exact .inr ⟨b,o,rfl,hs.mod hm (hb _ rfl)⟩
def aay (l:Nat→Value) (d:Nat) (v:Value):Nat→Value:=fun k=>if k=d then v else l k
section
variable (p q g h:Nat) (f sec:Int) (ns:Value) (ep gM:Nat) (l:Nat→Value)
theorem adu {d:Nat} (hd:d<8):(plC p q g h f sec ns ep gM l)[21+d*1]?=some (l d):=by
 rcases d with _|_|_|_|_|_|_|_|d
 all_goals first|rfl|omega
theorem acA {d:Nat} (hd:d<8) (v:Value):over (plC p q g h f sec ns ep gM l) (21+d*1) [v]=plC p q g h f sec ns ep gM (aay l d v):=by
 rcases d with _|_|_|_|_|_|_|_|d
 all_goals first|rfl|omega
end
def afq (P p q g h:Nat) (f sec:Int) (ns:Value) (ep gM:Nat) (l:Nat→Value) (M:List (Value × Value)) (hs:List (List Nat)) (x:Dd):Value→List Ent→Prop:=fun v N =>
 ∃ (g1 c1:Nat) (b:Dk),v=.tuple #[.bool true,.int .i64 0]∧hs.length+1≤c1∧c1<9223372036854775808 ∧
  N=⟨P,102,plC p q g h f sec ns ep gM (aay l x.d (.slice (some ⟨g1,0,none⟩) (hs.length+1) c1))⟩::mpE gM (M++[(hsV (ddH ep x),ddV ep x b)])::⟨g1,53,(hs++[ddH ep x]).flatMap byC++mkz (c1 - (hs.length+1)) (byC (List.replicate 32 0))⟩::ddL x b
section
variable (p q g h:Nat) (f sec:Int) (pN:Option Addr) (cN:Nat) (N:List (Nat × Nat)) (ep gM P:Nat) (l:Nat→Value) (x:Dd) (pV pY pP:Option Addr) (cV cY cP:Nat) (M:List (Value × Value)) (hs:List (List Nat)) (gl cl:Nat)
theorem abB (hHb:∀ b∈ddH ep x,b<256) (hV:x.V≠[]) (hY:x.Y≠[]) (hP:x.P≠[]) (hVl:x.V.length≤100) (hYl:x.Y.length≤100) (hPl:x.P.length≤100) (hd:x.d<8) (hM:uI Tryz.prog 53 M)
  (hno:∀ u,(hsV (ddH ep x),u) ∉ M) (he:ckE p q g h f sec N ep x.d x.V x.Y x.P x.c x.s=none) (hp:p<zd) (hq:q<zd) (hg:g<zd) (hh:h<zd) (hN:yz N) (hNl:N.length≤100)
  (hf1 : -9223372036854775808≤f) (hf2:f≤9223372036854775807) (hs1 : -9223372036854775808≤sec) (hs2:sec≤9223372036854775807) (hVb:∀ a∈x.V,a<zd) (hYb:∀ a∈x.Y,a<zd) (hPr:yz x.P) (hsC:x.c<zd) (hsS:x.s<zd)
  (hld:l x.d=agV gl cl hs.length hs.length) (hls:hs.length≤1000) (hcl:0<hs.length→hs.length≤cl∧cl<9223372036854775808) (h32:∀ b∈hs,(byC b).length=32)
  (hfar:∀ a,pV=some a∨pY=some a∨pP=some a∨pN=some a→a.block ∉ (P::gM::(rwL 53 gl (hs.flatMap byC) (mkz (cl - hs.length) (byC (List.replicate 32 0))) hs.length).map Ent.g))
  (h0:0 ∉ (P::gM::(rwL 53 gl (hs.flatMap byC) (mkz (cl - hs.length) (byC (List.replicate 32 0))) hs.length).map Ent.g)) :
  FnL Tryz.prog 12 [pt P,dlV ep x.d (.slice pV x.V.length cV) (.slice pY x.Y.length cY) (.slice pP x.P.length cP) x.c x.s]
   (⟨P,102,plC p q g h f sec (.slice pN N.length cN) ep gM l⟩::mpE gM M::rwL 53 gl (hs.flatMap byC) (mkz (cl - hs.length) (byC (List.replicate 32 0))) hs.length)
   (fun w=>RdF zb (.slice pV x.V.length cV) x.V w∧RdF zb (.slice pY x.Y.length cY) x.Y w∧RdF pfC (.slice pP x.P.length cP) x.P w∧RdF yf (.slice pN N.length cN) N w∧oF w)
   (afq P p q g h f sec (.slice pN N.length cN) ep gM l M hs x):=by
 have hT:=sa p q g h f sec (.slice pN N.length cN) ep gM P l;obtain⟨d,V,Y,Pr,sC,sS⟩:=x;simp only at *;have hH:=u9 ep d sC sS pV pY pP cV cY cP V Y Pr Om hV hY hP Om Om Om;have hC:=qh p q g h f sec pN pV pY pP cN cV cY cP N ep d V Y Pr sC sS hp hq hg hh hN hNl hf1 hf2 hs1 hs2 Om hVb hYb hPr hVl hYl hPl hsC hsS;rw[he,show (none:Option Int).getD 0=0 from rfl] at hC;have hW:=fJ ep d sC sS pV pY pP cV cY cP V Y Pr (List.length_pos_iff.2 hV) (List.length_pos_iff.2 hY) (List.length_pos_iff.2 hP) Om Om Om;unfold afq;simp only[show ddH ep ⟨d,V,Y,Pr,sC,sS⟩=yN ep d V Y Pr from rfl] at *;have hHl:(yN ep d V Y Pr).length=32:=yW _ _;have hk:=uQ _ hHb hHl;have hbl:(byC (yN ep d V Y Pr)).length=32:=by rw[ze];exact hHl
 have hgl:=adu p q g h f sec (.slice pN N.length cN) ep gM l hd;have hov:=fun v=>acA p q g h f sec (.slice pN N.length cN) ep gM l hd v;have hxl:(hs.flatMap byC).length=hs.length*32:=by
  clear hld hcl hfar h0 hls
  induction hs with
  | nil=>rfl
  | cons a r ih=>rw[List.flatMap_cons,List.length_append,h32 a (by simp),ih (fun b hb=>h32 b (by simp[hb])),List.length_cons];omega
 have hfV:∀ a,pV=some a→_:=fun a e=>hfar a (.inl e);have hfY:∀ a,pY=some a→_:=fun a e=>hfar a (.inr (.inl e));have hfP:∀ a,pP=some a→_:=fun a e=>hfar a (.inr (.inr (.inl e)));have hfN:∀ a,pN=some a→_:=fun a e=>hfar a (.inr (.inr (.inr e)));generalize yN ep d V Y Pr=H at *;clear hfar;rw[hld] at hgl;refine FnL.enter Tryz.func12 rfl rfl rfl ?_;intro w hw;obtain⟨w3,w4,w5,w6,w7⟩:=hw;have hgs:(Ent.mk P 102 (plC p q g h f sec (.slice pN N.length cN) ep gM l)::mpE gM M::rwL 53 gl (hs.flatMap byC) (mkz (cl - hs.length) (byC (List.replicate 32 0))) hs.length).map Ent.g=P::gM::(rwL 53 gl (hs.flatMap byC) (mkz (cl - hs.length) (byC (List.replicate 32 0))) hs.length).map Ent.g:=rfl;rw[hgs];clear hgs;generalize hG:P::gM::(rwL 53 gl (hs.flatMap byC) (mkz (cl - hs.length) (byC (List.replicate 32 0))) hs.length).map Ent.g=GS at *;clear hG
 repeat (first|refine Ta ?_|(refine Tm ?_;intro _)|refine WO.acallR (hc:=hT) (hR:=fun wx hm=>Hs.sg hm) (k:=?_)|refine Tc ?_|exact Tz)
 rename_i gD;refine WC.adraw 8 (k:=?_)
 iterate 8 (first|refine DQ.does (fun s _=>zB rfl rfl rfl) Dp.const ?_|refine Da ?_|refine Dc ?_)
 refine DQ.anil (k:=?_);intro sx _
 repeat (first|refine WO.stores (zz (vs:=byC H) (cs':=byC H) (hl:=hbl) (h1:=zT _) (hc:=zU (by rw[hbl];rfl)) (hle:=by rw[hbl];rfl)) ?_|refine Ta ?_|(refine Tm ?_;intro _)|refine WO.acallR (hc:=hH) (hR:=fun wx hm=>⟨w3.modH hm.mod hfV,w4.modH hm.mod hfY,w5.modH hm.mod hfP⟩) (k:=?_)|refine Tc ?_|exact Tz)
 rename_i gH;refine WC.adrawF [8] 10 (k:=?_)
 iterate 4 (first|refine Da ?_|refine Dc ?_)
 refine DQ.does (fun s _=>zH (vs:=byC H) (hc:=zA hbl) (hl:=hbl)) Dp.const ?_;refine DQ.does (fun s _=>qO yS rfl rfl (Mr.mp (by simp)) hM hk hno) Dp.const ?_
 repeat (first|refine Da ?_|refine Df ?_)
 refine DQ.anil (k:=?_);intro sx _;generalize sx 9 0=gT
 repeat (first|refine Tw ?_|(refine Tm ?_;intro _)|exact Tz)
 refine WC.adraw 7 (k:=?_)
 iterate 7 (first|refine DQ.does (fun s _=>zH (vs:=stC p q g h f sec (.slice pN N.length cN)) (hc:=rfl)) Dp.const ?_|refine DQ.acallM (hc:=hC) (hR:=fun w1 hm=>⟨⟨w6.modH hm.mod hfN,w3.modH hm.mod hfV,w4.modH hm.mod hfY,w5.modH hm.mod hfP⟩,w7.mod hm.mod h0⟩) (k:=?_)|refine Da ?_|refine Dc ?_)
 refine DQ.anil (k:=?_);intro sx _
 repeat (first|refine WO.does (zB rfl rfl rfl) ?_|refine Ta ?_|(refine Tm ?_;intro _)|refine Tc ?_|exact Tz)
 refine WC.adraw 7 (k:=?_)
 iterate 4 (first|refine Da ?_|refine Dc ?_)
 refine DQ.does (fun s _=>zH (vs:=byC H) (hc:=zA hbl) (hl:=hbl)) Dp.const ?_
 iterate 1 (first|refine Da ?_|refine Dc ?_)
 refine DQ.acallX (hc:=hW) (hR:=fun w1 hm=>⟨w3.modH hm.mod hfV,w4.modH hm.mod hfY,w5.modH hm.mod hfP⟩) (k:=?_);refine DQ.anil (k:=?_);intro sx2 _
 try simp only[List.map_cons,List.map_nil,List.cons_append,List.nil_append]
 generalize sx2 6 0=gV;generalize sx2 6 1=gY;generalize sx2 6 2=gP;generalize sx2 6 3=rV;generalize sx2 6 4=rY;generalize sx2 6 5=rP;refine WO.stores (ig yS rfl rfl rfl Pk.a hM hk hno) ?_
 repeat (first|refine Tw ?_|(refine Tm ?_;intro _)|exact Tz)
 have hcH:cut (byC H) 0 32=byC H:=zA hbl;have h1H:(byC H).length=1*(byC (List.replicate 32 0)).length:=by rw[hbl];rfl
 have hle8:Nat.ble (21+d*1+1) (plC p q g h f sec (.slice pN N.length cN) ep gM l).length=true:=by rw[Nat.ble_eq];show 21+d*1+1≤29;omega
 rcases Nat.eq_zero_or_pos hs.length with hn0|hpos
 ·obtain rfl:=List.length_eq_zero_iff.1 hn0
  try dsimp only[List.length_nil,agV,rwL] at hgl ⊢
  refine WC.mainV [11,12,15,16] [(0,pt P),(1,.pointer (some ⟨gD,1,none⟩)),(2,.int .u8 (d:Int)),(3,pt P),(4,.pointer (some ⟨gD,1,none⟩)),(5,.int .u8 (d:Int)),(6,pt P),(7,.pointer (some ⟨P,21,none⟩)),(8,.pointer (some ⟨P,21+d*1,none⟩)),(9,.slice none 0 0),(10,.agg (byC H).toArray),(13,pt P),(14,.pointer (some ⟨P,21,none⟩))] (by decide) ?_
  refine WT.with [⟨gH,53,byC H⟩,⟨gD,47,dlC ep d (.slice pV V.length cV) (.slice pY Y.length cY) (.slice pP Pr.length cP) sC sS⟩,⟨P,102,plC p q g h f sec (.slice pN N.length cN) ep gM l⟩] (by kernel_rfl)
   (Tlv.auto (Tlv.auto (Tlv.auto (Tlv.auto (Tlv.auto (Tlv.auto (Tlv.auto (Tlv.auto (Tlv.d rfl (zR (i:=d) rfl rfl hd rfl) (Tlv.d rfl (zJ (hc:=hgl)) (Tlv.d rfl (zH (vs:=byC H) (hc:=zA hbl) (hl:=hbl)) (Tlv.auto (Tlv.auto Tlv.nil)))))))))))))
   (fun hc hT=>?_)
  refine WT.one (m:=11) rfl hc hT ?_ (hl0:=by repeat (first|exact Lle.nil|refine Lle.c ?_));refine WO.makes (zh (cs:=byC H) rfl (by decide) (tH hbl)) ?_;intro gB;refine WO.nil (WX.wt [(61,.slice (some ⟨gB,0,none⟩) 1 1)] ?_);refine WT.one (m:=12) rfl hc hT ?_ (hl0:=by repeat (first|exact Lle.nil|refine Lle.c ?_));refine WO.appNZ (z:=byC (List.replicate 32 0)) (ys:=byC H) (m:=1) rfl rfl rfl (Rds.own (m:=32) Hs.a hcH) h1H (by decide) (by decide) (by decide) (by decide) (fun g1 c1 a2 a3=>?_);refine WO.nil (WX.wt [(62,.slice (some ⟨g1,0,none⟩) (0+1) c1)] ?_);refine WT.one (m:=15) rfl hc hT ?_ (hl0:=by repeat (first|exact Lle.nil|refine Lle.c ?_));refine WO.does (zR (i:=d) (o':=21+d*1) rfl rfl hd rfl) ?_;refine WO.nil (WX.wt [(65,.pointer (some ⟨P,21+d*1,none⟩))] ?_);refine WT.one (m:=16) rfl hc hT ?_ (hl0:=by repeat (first|exact Lle.nil|refine Lle.c ?_));refine WO.stores (zz (vs:=[.slice (some ⟨g1,0,none⟩) (0+1) c1]) (cs':=plC p q g h f sec (.slice pN N.length cN) ep gM (aay l d (.slice (some ⟨g1,0,none⟩) (0+1) c1))) (hc:=hov _) (hle:=hle8)) ?_;refine WO.nil (WX.wt [] ?_);refine WT.fin [16] 5 hc rfl (by kernel_rfl) ?_;clear hc hT
  repeat (first|refine Tw ?_|(refine Tm ?_;intro _)|exact Tz)
  exact WX.retP_of (N:=⟨P,102,plC p q g h f sec (.slice pN N.length cN) ep gM (aay l d (.slice (some ⟨g1,0,none⟩) (0+1) c1))⟩::mpE gM (M++[(hsV H,ddV ep ⟨d,V,Y,Pr,sC,sS⟩ ⟨gV,gY,gP,rV,rY,rP⟩)])::⟨g1,53,byC H++mkz (c1 - (0+1)) (byC (List.replicate 32 0))⟩::[⟨gV,24,V.flatMap zb++mkz rV (zb 0)⟩,⟨gY,24,Y.flatMap zb++mkz rY (zb 0)⟩,⟨gP,86,Pr.flatMap pfC++mkz rP (y7 0 0)⟩])
   (au rfl (zo rfl) (zo rfl)) (by repeat (first|exact Lle.nil|refine Lle.m ?_|refine Lle.c ?_)) ⟨g1,c1,⟨gV,gY,gP,rV,rY,rP⟩,rfl,a3,a2,by simp[ddL,ddV]⟩
 ·rw[yd hpos] at hgl;rw[ye hpos];obtain⟨r1,r2⟩:=hcl hpos;refine WC.mainV [11,12,15,16] [(0,pt P),(1,.pointer (some ⟨gD,1,none⟩)),(2,.int .u8 (d:Int)),(3,pt P),(4,.pointer (some ⟨gD,1,none⟩)),(5,.int .u8 (d:Int)),(6,pt P),(7,.pointer (some ⟨P,21,none⟩)),(8,.pointer (some ⟨P,21+d*1,none⟩)),(9,.slice (some ⟨gl,0,none⟩) hs.length cl),(10,.agg (byC H).toArray),(13,pt P),(14,.pointer (some ⟨P,21,none⟩))] (by decide) ?_
  refine WT.with [⟨gH,53,byC H⟩,⟨gD,47,dlC ep d (.slice pV V.length cV) (.slice pY Y.length cY) (.slice pP Pr.length cP) sC sS⟩,⟨P,102,plC p q g h f sec (.slice pN N.length cN) ep gM l⟩] (by kernel_rfl)
   (Tlv.auto (Tlv.auto (Tlv.auto (Tlv.auto (Tlv.auto (Tlv.auto (Tlv.auto (Tlv.auto (Tlv.d rfl (zR (i:=d) rfl rfl hd rfl) (Tlv.d rfl (zJ (hc:=hgl)) (Tlv.d rfl (zH (vs:=byC H) (hc:=zA hbl) (hl:=hbl)) (Tlv.auto (Tlv.auto Tlv.nil)))))))))))))
   (fun hc hT=>?_)
  refine WT.one (m:=11) rfl hc hT ?_ (hl0:=by repeat (first|exact Lle.nil|refine Lle.c ?_));refine WO.makes (zh (cs:=byC H) rfl (by decide) (tH hbl)) ?_;intro gB;refine WO.nil (WX.wt [(61,.slice (some ⟨gB,0,none⟩) 1 1)] ?_);refine WT.one (m:=12) rfl hc hT ?_ (hl0:=by repeat (first|exact Lle.nil|refine Lle.c ?_));refine WO.appKZ (z:=byC (List.replicate 32 0)) (m:=1) (l:=hs.length+1) rfl rfl rfl (xs:=hs.flatMap byC) (ys:=byC H) hxl r1 Pk.a (Rds.own (m:=32) Hs.a hcH) h1H (zT _) rfl Om r2 Om (by decide) (by decide) (fun g1 c1 a2 a3=>?_);refine WO.nil (WX.wt [(62,.slice (some ⟨g1,0,none⟩) (hs.length+1) c1)] ?_);refine WT.one (m:=15) rfl hc hT ?_ (hl0:=by repeat (first|exact Lle.nil|refine Lle.c ?_));refine WO.does (zR (i:=d) (o':=21+d*1) rfl rfl hd rfl) ?_;refine WO.nil (WX.wt [(65,.pointer (some ⟨P,21+d*1,none⟩))] ?_);refine WT.one (m:=16) rfl hc hT ?_ (hl0:=by repeat (first|exact Lle.nil|refine Lle.c ?_));refine WO.stores (zz (vs:=[.slice (some ⟨g1,0,none⟩) (hs.length+1) c1]) (cs':=plC p q g h f sec (.slice pN N.length cN) ep gM (aay l d (.slice (some ⟨g1,0,none⟩) (hs.length+1) c1))) (hc:=hov _) (hle:=hle8)) ?_;refine WO.nil (WX.wt [] ?_);refine WT.fin [16] 5 hc rfl (by kernel_rfl) ?_;clear hc hT
  repeat (first|refine Tw ?_|(refine Tm ?_;intro _)|exact Tz)
  exact WX.retP_of (N:=⟨P,102,plC p q g h f sec (.slice pN N.length cN) ep gM (aay l d (.slice (some ⟨g1,0,none⟩) (hs.length+1) c1))⟩::mpE gM (M++[(hsV H,ddV ep ⟨d,V,Y,Pr,sC,sS⟩ ⟨gV,gY,gP,rV,rY,rP⟩)])::⟨g1,53,(hs.flatMap byC++byC H)++mkz (c1 - (hs.length+1)) (byC (List.replicate 32 0))⟩::[⟨gV,24,V.flatMap zb++mkz rV (zb 0)⟩,⟨gY,24,Y.flatMap zb++mkz rY (zb 0)⟩,⟨gP,86,Pr.flatMap pfC++mkz rP (y7 0 0)⟩])
   (au rfl (zo rfl) (zo rfl)) (by repeat (first|exact Lle.nil|refine Lle.m ?_|refine Lle.c ?_)) ⟨g1,c1,⟨gV,gY,gP,rV,rY,rP⟩,rfl,a3,a2,by simp[ddL,ddV,List.flatMap_append]⟩
end
end Sx
end
section
open Go Go.RowKit Go.BigFrame
namespace Sx
attribute [local irreducible] DQ WC WO WX wd
section
variable (p q g h:Nat) (f sec:Int) (ns:Value) (ep gM P:Nat) (l:Nat→Value) (M:List (Value × Value)) (H:List Nat)
theorem aeu (x:Dd) (b:Dk) (hHb:∀ b∈H,b<256) (hHl:H.length=32) (hM:uI Tryz.prog 53 M) (hin:(hsV H,ddV ep x b)∈M) (hV:x.V≠[]) (hY:x.Y≠[]) (hP:x.P≠[]) (hVl:x.V.length≤100) (hYl:x.Y.length≤100) (hPl:x.P.length≤100) :
  Fn Tryz.prog 13 [pt P,.agg (byC H).toArray]
   (fun w=>Seg w P 0 (plC p q g h f sec ns ep gM l)∧(mpE gM M).ok w∧RdF zb (.slice (some ⟨b.v,0,none⟩) x.V.length x.V.length) x.V w∧RdF zb (.slice (some ⟨b.y,0,none⟩) x.Y.length x.Y.length) x.Y w∧RdF pfC (.slice (some ⟨b.p,0,none⟩) x.P.length x.P.length) x.P w)
   (Ex (fun s=>.tuple #[dlV ep x.d (.slice (some ⟨s 0,0,none⟩) x.V.length x.V.length) (.slice (some ⟨s 1,0,none⟩) x.Y.length x.Y.length) (.slice (some ⟨s 2,0,none⟩) x.P.length x.P.length) x.c x.s,.int .i64 0])
    (fun s=>[⟨s 0,24,x.V.flatMap zb++mkz (s 3) (zb 0)⟩,⟨s 1,24,x.Y.flatMap zb++mkz (s 4) (zb 0)⟩,⟨s 2,86,x.P.flatMap pfC++mkz (s 5) (y7 0 0)⟩]) (fun _=>True)):=by
 have hT:=sa p q g h f sec ns ep gM P l;have hk:=uQ _ hHb hHl;have hbl:(byC H).length=32:=by rw[ze];exact hHl
 have hW:=fJ ep x.d x.c x.s (some ⟨b.v,0,none⟩) (some ⟨b.y,0,none⟩) (some ⟨b.p,0,none⟩) x.V.length x.Y.length x.P.length x.V x.Y x.P (List.length_pos_iff.2 hV) (List.length_pos_iff.2 hY) (List.length_pos_iff.2 hP) Om Om Om;unfold ddV at hin;refine Fn.enter Tryz.func13 rfl rfl rfl ?_;intro w hw;obtain⟨w1,w2,w3,w4,w5⟩:=hw
 repeat (first|refine Tw ?_|(refine Tm ?_;intro _)|exact Tz)
 rename_i gH gR;refine WO.acallR (hc:=hT) (hR:=fun wx hm=>w1.mod hm.mod (by simp)) (k:=?_)
 repeat (first|refine Tw ?_|(refine Tm ?_;intro _)|exact Tz)
 refine WC.adrawF [8] 10 (k:=?_)
 iterate 3 (first|refine Da ?_|refine Dc ?_)
 refine DQ.does (fun s _=>zl (hs:=w1) (hc:=rfl)) Dp.const ?_;refine DQ.does (fun s _=>zH (vs:=byC H) (hc:=zA hbl) (hl:=hbl)) Dp.const ?_;refine DQ.does (fun s _=>uR yS rfl rfl (r7 w2 (by simp)) hM hk hin) Dp.const ?_
 repeat (first|refine Da ?_|refine Df ?_)
 refine DQ.anil (k:=?_);intro sx _;generalize sx 9 0=gT
 repeat (first|refine Tw ?_|(refine Tm ?_;intro _)|exact Tz)
 refine WO.acallX (hc:=hW) (hR:=fun w1 hm=>⟨w3.mod hm.mod,w4.mod hm.mod,w5.mod hm.mod⟩) (k:=fun yy hyy=>?_);generalize yy 0=gV;generalize yy 1=gY;generalize yy 2=gP;generalize yy 3=rV;generalize yy 4=rY;generalize yy 5=rP;simp only[List.cons_append,List.nil_append]
 repeat (first|refine Tw ?_|(refine Tm ?_;intro _)|exact Tz)
 exact WX.ret2 rfl (ym rfl Hs.a rfl rfl) (zo rfl) [⟨gV,24,x.V.flatMap zb++mkz rV (zb 0)⟩,⟨gY,24,x.Y.flatMap zb++mkz rY (zb 0)⟩,⟨gP,86,x.P.flatMap pfC++mkz rP (y7 0 0)⟩] (by repeat (first|exact Lle.nil|refine Lle.c ?_)) ⟨fun j=>match j with|0=>gV|1=>gY|2=>gP|3=>rV|4=>rY|_=>rP,rfl,rfl,trivial⟩
end
def mz (fnd:List Nat→Option Nat):Nat→List (List Nat)→Bool
 | _,[]=>true
 | last,h::r=>match fnd h with
  | none=>false
  | some d=>decide (last<d) && mz fnd d r
theorem mj {fnd:List Nat→Option Nat} {last:Nat} {h:List Nat} {r:List (List Nat)}:mz fnd last (h::r)=(match fnd h with|none=>false|some d=>decide (last<d) && mz fnd d r):=rfl
section
variable (p q g h:Nat) (f sec:Int) (pN:Option Addr) (cN n:Nat) (ep gM P:Nat) (l:Nat→Value) (M:List (Value × Value)) (pl:Option Addr) (cl:Nat) (hs:List (List Nat)) (fnd:List Nat→Option Nat)
theorem acP (hb:∀ H∈hs,(∀ b∈H,b<256)∧H.length=32) (hM:uI Tryz.prog 53 M) (hN:∀ H∈hs,fnd H=none→∀ u,(hsV H,u) ∉ M) (hY:∀ H∈hs,∀ d,fnd H=some d→∃ x b,x.d=d∧d<256∧(hsV H,ddV ep x b)∈M) (hl:hs.length<1000000)
  (hf1 : -9223372036854775808≤(n:Int) - f) (hf2:(n:Int) - f≤9223372036854775807) :
  Fn Tryz.prog 15 [pt P,.slice pl hs.length cl] (fun w=>Seg w P 0 (plC p q g h f sec (.slice pN n cN) ep gM l)∧(mpE gM M).ok w∧RdF byC (.slice pl hs.length cl) hs w) (Is (.bool (mz fnd 0 hs && decide ((n:Int) - f≤(hs.length:Int))))):=by
 have hT:=sa p q g h f sec (.slice pN n cN) ep gM P l;have hE:=kW p q g h f sec ep gM P l pN n cN hs.length hf1 hf2;have h32:∀ H∈hs,(byC H).length=32:=fun H hH=>by rw[ze];exact (hb H hH).2
 refine Fn.enter Tryz.func15 rfl rfl rfl ?_;intro w hw;obtain⟨w1,w2,w3⟩:=hw
 repeat (first|refine Ta ?_|(refine Tm ?_;intro _)|refine WO.acallR (hc:=hT) (hR:=fun wx hm=>w1.mod hm.mod (by simp)) (k:=?_)|refine Tc ?_|exact Tz)
 refine WC.loopI (σ:=Nat × Nat) (fun s=>s.1≤hs.length∧s.2<256∧mz fnd 0 hs=mz fnd s.2 (hs.drop s.1)) (fun s=>[(0,Sx.pt P),(1,.slice pl hs.length cl),(5,.int .u8 (s.2:Int)),(13,.slice pl hs.length cl),(14,.int .i64 (hs.length:Int)),(15,.int .i64 (s.1:Int))])
  (fun _=>[]) (fun s=>hs.length - s.1) (0,0) (fun s hi=>?_) ⟨Nat.zero_le _,by decide,rfl⟩
 obtain⟨i,last⟩:=s
 try dsimp only at hi ⊢
 obtain⟨hi,hla,hse⟩:=hi
 by_cases hlt:i<hs.length
 ·obtain⟨H,hH⟩ : ∃ H,hs[i]?=some H:=⟨_,List.getElem?_eq_getElem hlt⟩;have hHm:=List.mem_of_getElem? hH;have hbl:=h32 H hHm;have hk:=uQ H (hb H hHm).1 (hb H hHm).2;have hadd:IntKind.i64.wrap ((i:Int)+1)=((i+1:Nat):Int):=zn Om Om Om;obtain⟨b,o,rfl,_,hsg⟩:=id w3 |>.get hH
  have hci:cut (hs.flatMap byC) (o+i*32 - o) 32=byC H:=by
   rw[Nat.add_sub_cancel_left];have:=vT (r:=[]) h32 hH;rwa [List.append_nil] at this
  have hdr:hs.drop i=H::hs.drop (i+1):=by rw[List.drop_eq_getElem_cons hlt];congr 1;exact (List.getElem?_eq_some_iff.1 hH).2
  rw[hdr] at hse;rw[mj] at hse;cases hfd:fnd H with
  | none =>
   have hno:=hN H hHm hfd;rw[hfd] at hse;rw[show mz fnd 0 hs=false from hse,Bool.false_and]
   repeat (first|refine Tw ?_|(refine Tm ?_;intro _)|exact Tz)
   refine WC.dT rfl Om ?_
   repeat (first|refine WO.does (zc (o':=o+i*32) rfl rfl hlt rfl) ?_|refine WO.does (zm (vs:=byC H) (hs:=hsg) (hle:=Nat.le_add_right _ _) (hc:=hci) (hl:=hbl)) ?_|refine WO.stores (zz (vs:=byC H) (cs':=byC H) (hl:=hbl) (h1:=zT _) (hc:=zU (by rw[hbl];rfl)) (hle:=by rw[hbl];rfl)) ?_|refine Ta ?_|(refine Tm ?_;intro _)|refine Tc ?_|exact Tz)
   refine WC.adrawF [8] 10 (k:=?_)
   iterate 3 (first|refine Da ?_|refine Dc ?_)
   refine DQ.does (fun s _=>zl (hs:=w1) (hc:=rfl)) Dp.const ?_;refine DQ.does (fun s _=>zH (vs:=byC H) (hc:=zA hbl) (hl:=hbl)) Dp.const ?_;refine DQ.does (fun s _=>qO yS rfl rfl (r7 w2 (by simp)) hM hk hno) Dp.const ?_
   repeat (first|refine Da ?_|refine Df ?_)
   refine DQ.anil (k:=?_);intro sx _;generalize sx 9 0=gT
   repeat (first|refine Tw ?_|(refine Tm ?_;intro _)|exact Tz)
   done
  | some d =>
   obtain⟨x,bk,hxd,hd8,hin⟩:=hY H hHm d hfd;unfold ddV at hin;rw[hxd] at hin;rw[hfd] at hse
   by_cases hdl:last<d
   case neg =>
    have hle:((d:Nat):Int)≤(last:Int):=by omega
    rw[show mz fnd 0 hs=false by rw[hse];show (decide (last<d) && _)=false;rw[decide_eq_false hdl];rfl,Bool.false_and]
    repeat (first|refine Tw ?_|(refine Tm ?_;intro _)|exact Tz)
    refine WC.dT rfl Om ?_
    repeat (first|refine WO.does (zc (o':=o+i*32) rfl rfl hlt rfl) ?_|refine WO.does (zm (vs:=byC H) (hs:=hsg) (hle:=Nat.le_add_right _ _) (hc:=hci) (hl:=hbl)) ?_|refine WO.stores (zz (vs:=byC H) (cs':=byC H) (hl:=hbl) (h1:=zT _) (hc:=zU (by rw[hbl];rfl)) (hle:=by rw[hbl];rfl)) ?_|refine Ta ?_|(refine Tm ?_;intro _)|refine Tc ?_|exact Tz)
    refine WC.adrawF [8] 10 (k:=?_)
    iterate 3 (first|refine Da ?_|refine Dc ?_)
    refine DQ.does (fun s _=>zl (hs:=w1) (hc:=rfl)) Dp.const ?_;refine DQ.does (fun s _=>zH (vs:=byC H) (hc:=zA hbl) (hl:=hbl)) Dp.const ?_;refine DQ.does (fun s _=>uR yS rfl rfl (r7 w2 (by simp)) hM hk hin) Dp.const ?_
    repeat (first|refine Da ?_|refine Df ?_)
    refine DQ.anil (k:=?_);intro sx _;generalize sx 9 0=gT
    repeat (first|refine WO.does (nc rfl rfl hle) ?_|refine Ta ?_|(refine Tm ?_;intro _)|refine Tc ?_|exact Tz)
    done
   have hle:¬ ((d:Nat):Int)≤(last:Int):=by omega
   have hse2:mz fnd 0 hs=mz fnd d (hs.drop (i+1)):=by rw[hse];show (decide (last<d) && _)=_;rw[decide_eq_true hdl];rfl
   repeat (first|refine Tw ?_|(refine Tm ?_;intro _)|exact Tz)
   refine WC.dT rfl Om ?_
   repeat (first|refine WO.does (zc (o':=o+i*32) rfl rfl hlt rfl) ?_|refine WO.does (zm (vs:=byC H) (hs:=hsg) (hle:=Nat.le_add_right _ _) (hc:=hci) (hl:=hbl)) ?_|refine WO.stores (zz (vs:=byC H) (cs':=byC H) (hl:=hbl) (h1:=zT _) (hc:=zU (by rw[hbl];rfl)) (hle:=by rw[hbl];rfl)) ?_|refine Ta ?_|(refine Tm ?_;intro _)|refine Tc ?_|exact Tz)
   refine WC.adrawF [8] 10 (k:=?_)
   iterate 3 (first|refine Da ?_|refine Dc ?_)
   refine DQ.does (fun s _=>zl (hs:=w1) (hc:=rfl)) Dp.const ?_;refine DQ.does (fun s _=>zH (vs:=byC H) (hc:=zA hbl) (hl:=hbl)) Dp.const ?_;refine DQ.does (fun s _=>uR yS rfl rfl (r7 w2 (by simp)) hM hk hin) Dp.const ?_
   repeat (first|refine Da ?_|refine Df ?_)
   refine DQ.anil (k:=?_);intro sx _;generalize sx 9 0=gT
   repeat (first|refine WO.does (mc rfl rfl hle) ?_|refine WO.does (zi rfl rfl hadd) ?_|refine Ta ?_|(refine Tm ?_;intro _)|refine Tc ?_|exact Tz)
   exact WX.metI (i+1,d) (hs:=⟨⟨by show i+1≤hs.length;omega,hd8,hse2⟩,by show hs.length - (i+1)<hs.length - i;omega⟩)
 ·have hi3:i=hs.length:=by omega
  subst hi3;rw[List.drop_length] at hse;rw[show mz fnd 0 hs=true from hse,Bool.true_and]
  repeat (first|refine Tw ?_|(refine Tm ?_;intro _)|exact Tz)
  refine WC.dF rfl Om ?_
  repeat (first|refine Ta ?_|(refine Tm ?_;intro _)|refine WO.acallR (hc:=hE) (hR:=fun wx hm=>w1.mod hm.mod (by simp)) (k:=?_)|refine Tc ?_|exact Tz)
  done
end
end Sx
end
section
open Go Go.RowKit Go.BigFrame
namespace Sx
attribute [local irreducible] DQ WC WO wd
theorem gh (P:Nat):Fn Tryz.prog 35 [pt P] Tr (Ex (fun s=>.func (.func 90) #[] #[pt (s 0)]) (fun s=>[⟨s 0,37,[pt P]⟩]) (fun _=>True)):=by
 refine Fn.enter Tryz.func35 rfl rfl rfl ?_;intro w hw
 repeat (first|refine Ta ?_|(refine Tm ?_;intro _)|refine WO.does (zP rfl rfl) ?_|refine Tc ?_|exact Tz)
 rename_i g1;exact WX.ret1 rfl (zo rfl) [⟨g1,37,[pt P]⟩] (Lle.cons Pk.here rfl Lle.nil) ⟨fun _=>g1,rfl,rfl,trivial⟩
def uY {α:Type} (hk:Nat→List α) (k:Nat):List α:=(List.range k).flatMap hk
theorem qa {α:Type} (hk:Nat→List α) (k:Nat):uY hk (k+1)=uY hk k++hk k:=by
 unfold uY;rw[List.range_succ,List.flatMap_append];simp
theorem ei {α:Type} (hk:Nat→List α) (k:Nat):∀ j,k≤j→(uY hk k).length≤(uY hk j).length
  | 0, h => by obtain rfl : k = 0 := by omega
               exact Nat.le_refl _
  | j+1,h=>by
    rcases Nat.lt_or_ge j k with h1|h1
    · obtain rfl:k=j+1:=by omega
      exact Nat.le_refl _
    · rw[qa,List.length_append];exact Nat.le_trans (ei hk k j h1) (Nat.le_add_right _ _)
theorem acV {α:Type} {hk:Nat→List α} {k i:Nat} (h:k<8) (hi:i<(hk k).length):(uY hk k++(hk k).take i).length<(uY hk 8).length:=by
 have:=ei hk (k+1) 8 h;rw[qa,List.length_append] at this;rw[List.length_append,List.length_take];omega
theorem acN (l:Nat→Value):∀ k,k<8→[l 0,l 1,l 2,l 3,l 4,l 5,l 6,l 7][k]?=some (l k)
 | 0,_=>rfl
 | 1,_=>rfl
 | 2,_=>rfl
 | 3,_=>rfl
 | 4,_=>rfl
 | 5,_=>rfl
 | 6,_=>rfl
 | 7,_=>rfl
 | n+8,h=>absurd h Om
theorem all_in (m:Nat) {α:Type} (fi:α→Nat) (fh:α→List Nat) (hk:Nat→List α) (pk:Nat→Option Addr) (bk ck:Nat→Nat) (BS:List Nat) (p q g h:Nat) (f sec:Int) (ns:Value) (ep gM P gB l:Nat) (lv:Nat→Value) (J Jx:List α→World→Prop)
  (hJo:∀ s A B,J s A→Mod [] A B→J s B) (hJxo:∀ s A B,Jx s A→Mod [] A B→Jx s B)
  (hY:∀ pre x W,J pre W→pre.length<(uY hk 8).length→YieldAt (fw none) (m - 1) Tryz.prog l #[.int .i64 (fi x:Int),hsV (fh x)] W fun e W'=>(e=.returned (.bool true)∧J (pre++[x]) W'∧zL BS W W'∧W.heap.size≤W'.heap.size)∨(e=.returned (.bool false)∧Jx (pre++[x]) W'))
  (W:World) (hlv:∀ k,k<8→lv k=.slice (pk k) (hk k).length (ck k)) (hn:∀ k,(hk k).length<1000000) (hb:∀ x,(byC (fh x)).length=32)
  (hB:Seg W gB 0 [pt P]) (hP:Seg W P 0 (plC p q g h f sec ns ep gM lv)) (hpa:∀ k,k<8→hk k≠[]→pk k=some ⟨bk k,0,none⟩∧bk k∈BS) (hfi:∀ k i x,k<8→(hk k)[i]?=some x→fi x=i) (hS:∀ k i x,k<8→(hk k)[i]?=some x→Seg W (bk k) (0+i*32) (byC (fh x))) (hlt:∀ k∈BS,k<W.heap.size) (h0:J [] W) :
  CallsIn (fw none) m Tryz.prog 90 [.func (.yield l) #[] #[],pt gB].toArray W fun e W'=>(∃ v,e=.returned v)∧((∃ ys,ys=uY hk 8∧J ys W')∨(∃ pre,True∧Jx pre W')):=by
 refine vk (n:=28) Tryz.func90 rfl rfl rfl ?_;have hQ:¬ LetsOut (bodyPost Tryz.prog Tryz.f90 fun e W'=>(∃ v,e=.returned v)∧((∃ ys,ys=uY hk 8∧J ys W')∨(∃ pre,True∧Jx pre W'))):=by
  rintro ⟨a,w,⟨v,h⟩,_⟩;cases h
 refine WI.seq (WI.region ?_ (by exact hQ));refine WO.does (zl (hs:=hB)) ?_;refine WO.auto (k:=?_);refine WO.auto (k:=?_);refine WO.does (zm (vs:=[lv 0,lv 1,lv 2,lv 3,lv 4,lv 5,lv 6,lv 7]) (hs:=hP) (hc:=rfl)) ?_;refine WO.auto (k:=?_);refine WO.nil (WX.seqI ?_);refine WI.block ?_;refine WI.loopW (σ:=Nat) (fun k=>[(0,.func (.yield l) #[] #[]),(10,.agg [lv 0,lv 1,lv 2,lv 3,lv 4,lv 5,lv 6,lv 7].toArray),(11,.int .i64 (k:Int))]) (fun k w=>k≤8∧J (uY hk k) w∧zL BS W w∧W.heap.size≤w.heap.size) (fun k=>8 - k) 0 (fun w hw=>⟨Nat.zero_le _,?_,?_,hw.mod.size⟩) ?_ ?_
 ·exact hJo [] W w h0 hw.mod
 ·exact zL.of_mod hw.mod (fun k hk=>⟨hlt k hk,by simp⟩)
 ·repeat (first|exact Kle.nil|refine Kle.cons rfl rfl ?_)
 ·rintro k w1 ⟨hk8,hJ,hKp,hsz⟩;refine WI.seq (WI.region ?_ (by exact hQ));refine WO.auto (k:=?_);refine WO.nil (WX.seqI ?_);refine WI.seq ?_
  by_cases hkl:k<8
  ·refine WI.condT (show some (Value.bool (decide ((k:Int)<8)))=some (Value.bool true) by rw[decide_eq_true Om]) ?_;refine WI.skip (WX.seqI ?_);have ek:=hlv k hkl;have hnk:=hn k;refine WI.seq ?_;refine WI.block ?_;refine WI.seq (WI.region ?_ (by exact hQ));refine WO.does (rf rfl rfl hkl rfl (acN lv k hkl)) ?_;refine WO.auto (k:=?_);refine WO.nil (WX.seqI ?_);rw[ek];refine WI.seq (WI.region ?_ (by exact hQ));refine WO.auto (k:=?_);refine WO.auto (k:=?_);refine WO.auto (k:=?_);refine WO.nil (WX.seqI ?_);refine WI.block ?_;refine WI.loopW (σ:=Nat) (fun i=>[(0,.func (.yield l) #[] #[]),(10,.agg [lv 0,lv 1,lv 2,lv 3,lv 4,lv 5,lv 6,lv 7].toArray),(11,.int .i64 (k:Int)),(14,.slice (pk k) (hk k).length (ck k)),(15,.int .i64 ((hk k).length:Int)),(16,.int .i64 (i:Int))]) (fun i w=>i≤(hk k).length∧J (uY hk k++(hk k).take i) w∧zL BS W w∧W.heap.size≤w.heap.size) (fun i=>(hk k).length - i) 0 (fun w hw=>⟨Nat.zero_le _,?_,?_,Nat.le_trans hsz hw.mod.size⟩) ?_ ?_
   ·have:=hJo _ w1 w hJ hw.mod;simpa using this
   ·exact hKp.trans (zL.of_mod hw.mod (fun k hk=>⟨Nat.lt_of_lt_of_le (hlt k hk) hsz,by simp⟩))
   ·repeat (first|exact Kle.nil|refine Kle.cons rfl rfl ?_)
   ·clear hJ hKp hsz;rintro i w1 ⟨hi,hJ,hKp,hsz⟩;have hlw:∀ j∈BS,j<w1.heap.size:=fun j hj=>Nat.lt_of_lt_of_le (hlt j hj) hsz;refine WI.seq (WI.region ?_ (by exact hQ));refine WO.auto (k:=?_);refine WO.nil (WX.seqI ?_);refine WI.seq ?_
    by_cases hil:i<(hk k).length
    ·refine WI.condT (show some (Value.bool (decide ((i:Int)<((hk k).length:Int))))=some (Value.bool true) by rw[decide_eq_true Om]) ?_;refine WI.skip (WX.seqI ?_);obtain⟨x,hx⟩ : ∃ x,(hk k)[i]?=some x:=⟨_,List.getElem?_eq_getElem hil⟩;obtain⟨epk,hbm⟩:=hpa k hkl (by rintro e;rw[e] at hil;simp at hil);have hS':=hKp.seg (b:=bk k) hbm (hS k i x hkl hx);have hfx:=hfi k i x hkl hx;have hbx:=hb x;have hx' : (uY hk k++(hk k).take i)++[x]=uY hk k++(hk k).take (i+1):=by rw[List.append_assoc,List.take_add_one,hx];rfl
     have hlX:=acV hkl hil;have e1:IntKind.i64.wrap ((i:Int)+1)=((i+1:Nat):Int):=zn Om Om Om;rw[epk];refine WI.seq ?_;refine WI.block ?_;refine WI.seq (WI.region ?_ (by exact hQ));refine WO.auto (k:=?_);refine WO.does (zc (o':=0+i*32) rfl rfl hil rfl) ?_;refine WO.does (zm (vs:=byC (fh x)) (hs:=hS') (hle:=Nat.le_refl _) (hc:=by rw[Nat.sub_self];exact zA hbx) (hl:=hbx)) ?_;(refine Tm ?_;intro gH);refine WO.auto (k:=?_);refine WO.stores (zz (vs:=byC (fh x)) (cs':=byC (fh x)) (hl:=hbx) (h1:=zT _) (hc:=zU (by rw[hbx];rfl)) (hle:=by rw[hbx];rfl)) ?_;refine WO.nil (WX.seqI ?_);refine WI.seq (WI.regionY 3 (by exact hQ) ?_);simp only[List.take_succ_cons,List.take_zero,List.drop_succ_cons,List.drop_zero];refine WO.does (yL rfl) ?_;refine WO.does (yL rfl) ?_;refine WO.does (zH (vs:=byC (fh x)) (hc:=zA hbx) (hl:=hbx)) ?_;refine WO.nil (WX.woi ?_);refine WOI.yield (vs:=[.int .i64 (i:Int),hsV (fh x)]) rfl rfl (fun w2 h2=>hfx ▸ hY (uY hk k++(hk k).take i) x w2 (hJo _ _ _ hJ h2.mod) hlX) (fun w2 e w3 h2 hR=>?_);have hKw:zL BS W w2:=hKp.trans (zL.of_mod h2.mod (fun j hj=>⟨hlw j hj,by simp⟩));have hs2:=Nat.le_trans hsz h2.mod.size
     rcases hR with ⟨rfl,hR,hK3,hs3⟩|⟨rfl,hR⟩
     ·refine⟨true,rfl,?_⟩;rw[hx'] at hR;refine WOI.of (by exact hQ) ?_;refine WO.auto (k:=?_);refine WO.nil (WX.seqI ?_);refine WI.condF rfl ?_;refine WI.skip (WX.blk_normal (WX.seqI ?_));refine WI.region ?_ (by exact hQ);refine WO.does (zi rfl rfl e1) ?_;refine WO.auto (k:=?_);refine WO.nil ?_;refine WX.metW (i+1) Om (by repeat (first|exact Kle.nil|refine Kle.cons rfl rfl ?_)) (fun w4 h4=>⟨by omega,hJo _ _ _ hR h4.mod,?_,Nat.le_trans hs2 (Nat.le_trans hs3 h4.mod.size)⟩);exact (hKw.trans hK3).trans (zL.of_mod h4.mod (fun j hj=>⟨Nat.lt_of_lt_of_le (hlt j hj) (Nat.le_trans hs2 hs3),by simp⟩))
     ·refine⟨false,rfl,?_⟩;rw[hx'] at hR;refine WOI.of (by exact hQ) ?_;refine WO.auto (k:=?_);refine WO.nil (WX.seqI ?_);refine WI.condT rfl ?_;refine WI.ret ?_;refine WX.blk_ret (WX.then_ret (WX.then_ret (WX.blk_ret (WX.blk_ret (WX.then_ret (WX.then_ret (WX.blk_ret ?_)))))));intro a w4 g1 g2 g3 g4;exact bodyPost_ret (results_none rfl _ _ _) g1 ⟨⟨_,rfl⟩,.inr ⟨_,trivial,hJxo _ _ _ hR g4.mod⟩⟩
    ·refine WI.condF (show some (Value.bool (decide ((i:Int)<((hk k).length:Int))))=some (Value.bool false) by rw[decide_eq_false Om]) ?_;refine WI.exit (WX.then_exit (WX.then_exit (WX.blk_exit ?_)));obtain rfl:i=(hk k).length:=by omega
     rw[List.take_length,← qa] at hJ;have e1:IntKind.i64.wrap ((k:Int)+1)=((k+1:Nat):Int):=zn Om Om Om;refine WX.blk_normal (WX.seqI ?_);refine WI.region ?_ (by exact hQ);refine WO.does (zi rfl rfl e1) ?_;refine WO.auto (k:=?_);refine WO.nil ?_;refine WX.metW (k+1) Om (by repeat (first|exact Kle.nil|refine Kle.cons rfl rfl ?_)) (fun w4 h4=>⟨by omega,hJo _ _ _ hJ h4.mod,?_,Nat.le_trans hsz h4.mod.size⟩);exact hKp.trans (zL.of_mod h4.mod (fun j hj=>⟨hlw j hj,by simp⟩))
  ·refine WI.condF (show some (Value.bool (decide ((k:Int)<8)))=some (Value.bool false) by rw[decide_eq_false Om]) ?_;refine WI.exit (WX.then_exit (WX.then_exit (WX.blk_exit ?_)));intro a w4 g1 g2 g3 g4;obtain rfl:k=8:=by omega
   exact bodyPost_end (results_none rfl _ _ _) g1 ⟨⟨_,rfl⟩,.inl ⟨_,rfl,hJo _ _ _ hJ g4.mod⟩⟩
end Sx
end
section
open Go Go.RowKit Go.BigFrame
namespace Sx
theorem tQ {P:Program} {m:Nat} {fn:Func} {post:Value→List Ent→Prop} {w W:World} {K:List (Nat × Value)} {L N:List Ent} {v:Value} {a:Act} {D:Nat} {ds:List Deferred} (hd:ds=[{ target:=.collected D,args:=#[] }]) (hk:Kn K a) (hme:Me w [] L W) (hD:w.heap.size≤D) (hK:W.heap[D]?=some (.deferred (some [])))
  (hm:∀ e∈L,e.k.map=false) (hv:∀ a w',Kn K a→Me w [] L w'→(results fn a.tmps).run P w'=.ok v w') (hN:Lle N L) (hp:post v N):LeavesInM Fence.wide m P fn a.tmps (um w post) ds .returning W:=by
 subst hd;refine⟨by simp,.inl ⟨_,_,rfl,run_takeDeferred hK,?_⟩⟩;have hne:∀ e∈L,e.g≠D:=fun e he h=>(hme.ok e he).far (hm e he) (by rw[h];exact hK) rfl;have hb:=hme.mod.below.trans (belowK_b (w:=w) (Nat.le_refl _) W D _ (.deferred none) hD hK rfl rfl);have h3:Me w [] L (W.putObj D (.deferred none)):=⟨.of_below hb [],fun e he=>(hme.ok e he).keep (World.putObj_heap_other (hne e he)),hme.mine,hme.nodup⟩;have hn:=hN.me h3;exact⟨v,hv a _ hk h3,v,N,rfl,hb,⟨hn.ok,fun e he=>(hn.mine e he).resolve_right (by simp),hn.nodup⟩,hp⟩
theorem WO.tailR {P:Program} {w0:World} {gs:List Nat} {n:Nat} {Q:Exit→Act→World→Prop} {K:List (Nat × Value)} {L:List Ent} {ds:List Deferred} {id:Nat} {l:List Oper} {a:Act} {w:World} (hd:a.defers=ds) (hs:a.tmps.size=n) (hk:Kn K a) (hm:Me w0 gs L w)
  (k:WO P w0 gs n l (fun e a w=>Q e (dfA ds a) w) K L l):(Code.region id l.toArray false).wp P Q a w:=by
 refine wp_region_lit ?_;have e:a=dfA ds { tmps:=a.tmps,defers:=[] }:=by
  cases a;subst hd;rfl
 rw[e];exact vO ds (k { tmps:=a.tmps,defers:=[] } w rfl hs hk hm)
def zM {α:Type} (fi:α→Nat) (fh:α→List Nat) (xs:List α):List (List Nat):=(xs.filter fun x=>fi x == 0).map fh
theorem lC {α:Type} (fi:α→Nat) (fh:α→List Nat) (xs:List α) (x:α):zM fi fh (xs++[x])=zM fi fh xs++(if fi x=0 then [fh x] else []):=by
 unfold zM;rw[List.filter_append,List.map_append];congr 1
 by_cases h:fi x=0
 ·rw[if_pos h];simp[h]
 ·rw[if_neg h];simp[h]
theorem dr {α:Type} (fi:α→Nat) (fh:α→List Nat) (xs:List α):(zM fi fh xs).length≤xs.length:=by
 unfold zM;rw[List.length_map];exact List.length_filter_le _ _
theorem all_stops (m:Nat) {α:Type} (fi:α→Nat) (fh:α→List Nat) (hk:Nat→List α) (pk:Nat→Option Addr) (bk ck:Nat→Nat) (BS:List Nat) (p q g h:Nat) (f sec:Int) (ns:Value) (ep gM P gB:Nat) (lv:Nat→Value) (w:World) (hgB:gB∈BS) (hPB:P∈BS)
  (hlv:∀ k,k<8→lv k=.slice (pk k) (hk k).length (ck k)) (hn:∀ k,(hk k).length<1000000) (hb:∀ x,(byC (fh x)).length=32)
  (hB:Seg w gB 0 [pt P]) (hP:Seg w P 0 (plC p q g h f sec ns ep gM lv)) (hpa:∀ k,k<8→hk k≠[]→pk k=some ⟨bk k,0,none⟩∧bk k∈BS) (hfi:∀ k i x,k<8→(hk k)[i]?=some x→fi x=i) (hS:∀ k i x,k<8→(hk k)[i]?=some x→Seg w (bk k) (0+i*32) (byC (fh x))) (hlt:∀ k∈BS,k<w.heap.size) :
  SeqStopsK Fence.wide m Tryz.prog 90 #[pt gB] (fun x:α=>#[.int .i64 (fi x:Int),hsV (fh x)]) (KpB BS) (fun ys=>ys=uY hk 8) (fun _=>True) (uY hk 8).length w:=fun l J Jx W hW hJ hJx hY h0=>by
 have hk1:zL BS w W:=fun k hk=>hW.block k (hlt k hk)
 refine all_in m fi fh hk pk bk ck BS p q g h f sec ns ep gM P gB l lv J Jx (fun s A B h hm=>hJ s A B none h ⟨hm.os,hm.tape,hm.output,hm.size,fun k hk _=>hm.block k hk (by simp)⟩ (by simp)) (fun s A B h hm=>hJx s A B none h ⟨hm.os,hm.tape,hm.output,hm.size,fun k hk _=>hm.block k hk (by simp)⟩ (by simp))
  hY W hlv hn hb (hk1.seg hgB hB) (hk1.seg hPB hP) hpa hfi (fun k i x h1 h2=>hk1.seg (hpa k h1 (by rintro e;rw[e] at h2;simp at h2)).2 (hS k i x h1 h2)) (fun k hk=>Nat.lt_of_lt_of_le (hlt k hk) hW.size) h0
end Sx
end
section
open Go Go.RowKit Go.BigFrame
namespace Sx
attribute [local irreducible] DQ WC WO wd
abbrev lW (g c:Nat) (H:List (List Nat)):List Ent:=rwL 53 g (H.flatMap byC) (mkz (c - H.length) (byC (List.replicate 32 0))) H.length
abbrev oM (g c:Nat) (H:List (List Nat)):Value:=agV g c H.length H.length
theorem iK {t g:Nat} {B r:List Value}:∀ {n:Nat},∀ e∈rwL t g B r n,e.k.map=false
 | 0,e,he=>by simp[rwL] at he
 | n+1,e,he=>by simp[rwL] at he;rw[he];rfl
theorem pI {g2 gB P gO cO:Nat} {v:Value} {F:List (List Nat)} (_:Unit:=()):((((⟨g2,59,[v]⟩::lW gO cO F)++[⟨gB,37,[pt P]⟩]):List Ent).all fun e=>!e.k.map)=true:=by
 cases F<;>rfl
theorem acw {w W:World} {g2 gO cO g m c:Nat} {F:List (List Nat)} {R:List Ent} (h:Me w [] ((⟨g2,59,[oM gO cO F]⟩::lW gO cO F)++R) W) (hv:oM gO cO F=.slice (some ⟨g,0,none⟩) m c):g<W.heap.size:=by
 cases F with
 | nil=>cases hv
 | cons a F =>
  have:=(h.ok ⟨gO,53,_⟩ (List.mem_append_left _ (List.mem_cons_of_mem _ (List.mem_singleton.2 rfl)))).lt;cases hv;exact this
theorem ok_one {W:World} {g t:Nat} {u v:Value} (ht:t≠0) (h1:(⟨g,t,[u]⟩ : Ent).ok W) (h2:(⟨g,t,[v]⟩ : Ent).ok W):u=v:=by
 have a:=h1.row ht;rw[h2.row ht] at a;cases a;rfl
theorem abv {g c:Nat} {F:List (List Nat)} (h:F.length≤c):∃ p c',oM g c F=.slice p F.length c'∧F.length≤c'∧Value.slice p F.length F.length=oM g F.length F:=by
 cases F with
 | nil=>exact⟨none,0,rfl,Nat.le_refl _,rfl⟩
 | cons a F=>exact⟨some ⟨g,0,none⟩,c,rfl,h,rfl⟩
theorem aaP:∀ {H:List (List Nat)},(∀ h∈H,(byC h).length=32)→(H.flatMap byC).length=H.length*32
 | [],_=>rfl
 | a::H,h=>by rw[List.flatMap_cons,List.length_append,aaP (fun x hx=>h x (by simp[hx])),h a (by simp),List.length_cons];omega
def FsP (b:Bool) (H:List (List Nat)):Value→List Ent→Prop:=fun v N =>
 (b=false→v=.tuple #[.slice none 0 0,.bool false])∧(b=true→∃ g c,v=.tuple #[oM g H.length H,.bool true]∧N=lW g c H)
section
variable (p q g h:Nat) (f sec:Int) (pN:Option Addr) (cN n:Nat) (ep gM P:Nat) (lv:Nat→Value)
theorem eW {α:Type} (fi:α→Nat) (fh:α→List Nat) (hk:Nat→List α) (pk:Nat→Option Addr) (bk ck:Nat→Nat) (BS:List Nat) (hPB:P∈BS)
  (hlv:∀ k,k<8→lv k=.slice (pk k) (hk k).length (ck k)) (hn:∀ k,(hk k).length<1000000) (hX:(uY hk 8).length<10000000) (hb:∀ x,(byC (fh x)).length=32)
  (hpa:∀ k,k<8→hk k≠[]→pk k=some ⟨bk k,0,none⟩∧bk k∈BS) (hfi:∀ k i x,k<8→(hk k)[i]?=some x→fi x=i)
  (hf1 : -9223372036854775808≤(n:Int) - f) (hf2:(n:Int) - f≤9223372036854775807) :
  Fn Tryz.prog 14 [pt P] (fun w=>Seg w P 0 (plC p q g h f sec (.slice pN n cN) ep gM lv)∧(∀ k i x,k<8→(hk k)[i]?=some x→Seg w (bk k) (0+i*32) (byC (fh x)))∧∀ k∈BS,k<w.heap.size)
   (FsP (decide ((n:Int) - f≤((zM fi fh (uY hk 8)).length:Int))) (zM fi fh (uY hk 8))):=by
 have hT:=sa p q g h f sec (.slice pN n cN) ep gM P lv;have hA:=gh P;intro w hw;obtain⟨w1,w2,w3⟩:=hw;refine vK (n:=26) 3 Tryz.func14 rfl rfl rfl ?_
 repeat (first|refine Ta ?_|(refine Tm ?_;intro _)|refine WO.acallR (hc:=hT) (hR:=fun wx hm=>w1.mod hm.mod (by simp)) (k:=?_)|refine WO.acallX (hc:=hA) (hR:=fun _ _=>trivial) (k:=fun s _=>?_)|refine Tc ?_|exact Tz)
 rename_i g2 hs0;clear hs0;generalize s 0=gB;refine WC.ndp' (fun hnd=>?_);refine WC.mine (fun hmn=>?_);simp only[List.map_append,List.map_cons,List.map_nil,List.cons_append,List.nil_append] at hnd hmn;refine WC.unf (fun a w4 d1 d2 d3 d4=>?_);have lB:=(d4.ok ⟨gB,_,_⟩ (Hs.mem Hs.a)).lt;have l2:=(d4.ok ⟨g2,_,_⟩ (Hs.mem Hs.a)).lt;have sB:=(d4.ok ⟨gB,_,_⟩ (Hs.mem Hs.a)).seg 0;simp only[List.drop_zero] at lB l2 sB;have hn0:=d4.mod.size;have B2:w.heap.size≤g2:=(hmn ⟨g2,_,_⟩ (Hs.mem Hs.a)).resolve_right (by simp);have hne:gB≠g2:=by intro e;simp[e] at hnd
 clear hnd hmn;have hk4:zL BS w w4:=zL.of_mod d4.mod (fun k hk=>⟨w3 k hk,by simp⟩);have hks:∀ k∈gB::BS,k<w4.heap.size∧k≠g2:=by
  intro k hk
  rcases List.mem_cons.1 hk with rfl|hk
  ·exact⟨lB,hne⟩
  ·have:=w3 k hk;omega
 obtain⟨I,hI0⟩ : ∃ I:List α→World→Prop,∀ pre W,I pre W↔(∃ gO cO,((zM fi fh pre).length≤cO∧cO<9223372036854775808)∧Me w [] ((⟨g2,59,[oM gO cO (zM fi fh pre)]⟩::lW gO cO (zM fi fh pre))++[⟨gB,37,[pt P]⟩]) W∧w4.heap.size≤W.heap.size):=⟨_,fun _ _=>Iff.rfl⟩;refine (wpIn_wide (n:=3)).1 ?_
 refine wpIn_rangeFunc_ownH (F:=Fence.wide) rfl Om (gf:=90) (lb:=#[pt gB]) (d3.eval (x:=.tmp 10) rfl) trivial (enters_of Tryz.func90 (by kernel_rfl) rfl)
  (all_stops 2 fi fh hk pk bk ck (gB::BS) p q g h f sec (.slice pN n cN) ep gM P gB lv w4 (by simp) (by simp[hPB]) hlv hn hb sB (hk4.seg hPB w1) (fun k h1 h2=>⟨(hpa k h1 h2).1,by simp[(hpa k h1 h2).2]⟩) hfi (fun k i x h1 h2=>hk4.seg (hpa k h1 (by rintro e;rw[e] at h2;simp at h2)).2 (w2 k i x h1 h2)) (fun k hk=>(hks k hk).1))
  KpB.trans (KpB.put (fun k hk=>(hks k hk).1)) (Below.refl _ _) (fun _=>rfl)
  I (fun _ _ _=>False)
  (fun pre A B row hs hg hr=>by
   obtain⟨gO,cO,h1,h2,h3⟩:=(hI0 _ _).1 hs;exact (hI0 _ _).2 ⟨gO,cO,h1,h2.own hn0 hg hr pI,Nat.le_trans h3 hg.size⟩)
  (fun _ _ _ _ _ hs _ _=>hs)
  ((hI0 _ _).2 ⟨0,0,⟨by simp[zM],by decide⟩,Lle.me (L':=[⟨g2,59,[.slice none 0 0]⟩,⟨gB,37,[pt P]⟩]) (by repeat (first|exact Lle.nil|refine Lle.c ?_)) d4,Nat.le_refl _⟩)
  (fun x a' W=>a'.defers=[]∧a'.tmps.size=26∧∃ q5,Kn [(4,.int .i64 (fi x:Int)),(5,pt q5),(0,pt P),(2,pt g2)] a'∧(⟨q5,53,byC (fh x)⟩ : Ent).ok W∧w4.heap.size≤q5∧∃ v,(⟨g2,59,[v]⟩ : Ent).ok W∧∀ g m c,v=.slice (some ⟨g,0,none⟩) m c→q5≠g)
  (fun x a' _ A B row ⟨e1,e2,q5,e3,e4,e5,v,e6,e7⟩ hg hr=>⟨e1,e2,q5,e3,e4.own hg hr,e5,v,e6.own hg hr,e7⟩)
  ?assign ?body ?done ?stop
 case assign =>
  intro lr pre x W K hI hK;have hbx:=hb x;have hQ:¬ LetsOut (Exit.then K (fun _ _ _=>False)):=fun ⟨_,_,h⟩=>h;have hkn:Kn ([(11,.int .i64 (fi x:Int)),(12,hsV (fh x))]++[(0,pt P),(2,pt g2)]) { tmps:=((#[11,12]:Array Tmp).zip #[.int .i64 (fi x:Int),hsV (fh x)]).foldl (fun t (p,v)=>t.setIfInBounds p v) a.tmps,defers:=[] }:=by
   have k00:Kn [(0,pt P),(2,pt g2)] a:=Kle.kn d3 (by repeat (first|exact Kle.nil|refine Kle.cons rfl rfl ?_));have k0:Kn [(0,pt P),(2,pt g2)] ({ a with defers:=[] }:Act):=k00;have k1:=k0.put (d:=11) (by show 11<a.tmps.size;omega) (.int .i64 (fi x:Int));have k2:=k1.put (d:=12) (by rw[zO];show 12<a.tmps.size;omega) (hsV (fh x));have k3:Kn ([(11,.int .i64 (fi x:Int)),(12,hsV (fh x))]++[(0,pt P),(2,pt g2)]) _:=Kle.kn k2 (by repeat (first|exact Kle.nil|refine Kle.cons rfl rfl ?_));intro t v ht;have k4:=k3 t v ht;simpa [Act.put,Array.zip] using k4
  suffices HH:WI (some lr) 1 Tryz.prog W [] 26 _ (Exit.then K (fun _ _ _=>False)) ([(11,.int .i64 (fi x:Int)),(12,hsV (fh x))]++[(0,pt P),(2,pt g2)]) [] from HH _ W rfl (by simp[d2]) hkn (Me.refl W [])
  repeat (first|refine WO.stores (zz (vs:=byC (fh x)) (cs':=byC (fh x)) (hl:=hbx) (h1:=zT _) (hc:=zU (by rw[hbx];rfl)) (hle:=by rw[hbx];rfl)) ?_|refine WO.nil ?_|refine WO.skip ?_|refine WX.seqI ?_|refine WI.seq ?_|refine WI.region ?_ (by exact hQ)|refine WO.autoS (k:=?_)|(refine WO.autoM (k:=?_);intro _)|refine WO.auto (k:=?_)|refine WO.does yp ?_|refine WO.does vL ?_|refine WI.ret ?_|refine WI.skip ?_|refine WX.then_ret ?_|refine WX.noPanic ?_|refine WX.blk_normal ?_|refine WX.blk_ret ?_|refine WX.then_exit ?_|refine WX.blk_exit ?_|refine WX.blk_pass rfl ?_|refine WI.exit ?_|refine WI.block ?_|refine WX.scp_normal ?_|refine WX.scp_ret ?_|refine WX.scp_exit ?_|refine WI.condT rfl ?_|refine WI.condF rfl ?_)
  rename_i q5;intro a2 W2 e1 e2 e3 e4;have o5:=e4.ok ⟨q5,_,_⟩ (Hs.mem Hs.a);have m5:=(e4.mine ⟨q5,_,_⟩ (Hs.mem Hs.a)).resolve_right (by simp);obtain⟨gO,cO,h1,h2,h3⟩:=(hI0 _ _).1 hI
  refine hK a2 W2 ⟨e4.mod.size,fun k o _ hk _=>(e4.mod.block k (Array.getElem?_eq_some_iff.1 hk).1 (by simp)).trans hk⟩ ⟨zL.of_mod e4.mod (fun k hk=>⟨Nat.lt_of_lt_of_le (hks k hk).1 h3,by simp⟩),e4.mod.size⟩ ((hI0 _ _).2 ⟨gO,cO,h1,h2.below e4.mod.below,Nat.le_trans h3 e4.mod.size⟩)
   ⟨e1,e2,q5,Kle.kn e3 (by repeat (first|exact Kle.nil|refine Kle.cons rfl rfl ?_)),o5,Nat.le_trans h3 m5,_,(h2.below e4.mod.below).ok _ (List.mem_append_left _ (List.mem_cons_self ..)),fun g m c hv=>by
    have h5:=acw h2 hv;have h6:W.heap.size≤q5:=m5;omega⟩
 case body =>
  rintro lr pre x a' W hl _ hIa ⟨e1,e2,q5,e3,o5,hq5,v5,ov5,hv5⟩ hlen;obtain⟨gO,cO,⟨hc1,hc2⟩,hI,hIs⟩:=(hI0 _ _).1 hIa;have hsn:=lC fi fh pre x;have hbx:=hb x;have hFl:=dr fi fh pre;have hF32:((zM fi fh pre).flatMap byC).length=(zM fi fh pre).length*32:=aaP (fun y hy=>by
   unfold zM at hy;obtain⟨z,_,rfl⟩:=List.mem_map.1 hy;exact hb z)
  have s5:=o5.seg 0;simp only[List.drop_zero] at s5;have hQ:¬ LetsOut (ownPostG w4.heap.size (KpB (gB::BS)) I (fun _ _ _=>False) (pre++[x]) W):=fun ⟨_,_,h⟩=>h;have hkK:∀ {gs:List Nat} {W2:World},Mod gs W W2→(∀ k∈gB::BS,k ∉ gs)→KpB (gB::BS) W W2:=fun hm hg=>⟨zL.of_mod hm (fun k hk=>⟨Nat.lt_of_lt_of_le (hks k hk).1 hIs,hg k hk⟩),hm.size⟩
  by_cases h0:fi x=0
  ·rw[if_pos h0] at hsn;have hfin:∀ (g1 c1:Nat) (a2:Act) (W2:World),(zM fi fh pre).length+1≤c1→c1<9223372036854775808→Me W ((⟨g2,59,[oM gO cO (zM fi fh pre)]⟩::lW gO cO (zM fi fh pre)).map Ent.g) (⟨g2,59,[oM g1 c1 (zM fi fh pre++[fh x])]⟩::lW g1 c1 (zM fi fh pre++[fh x])) W2→ownPostG w4.heap.size (KpB (gB::BS)) I (fun _ _ _=>False) (pre++[x]) W .normal a2 W2:=by
    intro g1 c1 a2 W2 r1 r2 f4;have hnd:=hI.nodup;rw[List.map_append,List.nodup_append] at hnd;have hall:=List.all_eq_true.1 (pI (g2:=g2) (gB:=gB) (P:=P) (gO:=gO) (cO:=cO) (v:=oM gO cO (zM fi fh pre)) (F:=zM fi fh pre));refine⟨⟨f4.mod.size,fun k o hk0 hk hc=>(f4.mod.block k (Array.getElem?_eq_some_iff.1 hk).1 (fun hx=>?_)).trans hk⟩,hkK f4.mod (fun k hk hx=>?_),(hI0 _ _).2 ⟨g1,c1,?_⟩⟩
    ·obtain⟨e,he,rfl⟩:=List.mem_map.1 hx;exact (hI.ok e (List.mem_append_left _ he)).far (by simpa using hall e (List.mem_append_left _ he)) hk hc
    ·rcases List.mem_cons.1 hk with rfl|hk
     ·exact hnd.2.2 _ hx _ (by simp) rfl
     ·have:=w3 k hk;obtain⟨e,he,rfl⟩:=List.mem_map.1 hx;have:=(hI.mine e (List.mem_append_left _ he)).resolve_right (by simp);omega
    ·rw[hsn];exact⟨⟨by rw[List.length_append];exact r1,r2⟩,Me.callL hI f4,Nat.le_trans hIs f4.mod.size⟩
   have h0' : ((fi x:Nat):Int)=0:=by omega
   rw[h0'] at e3;have hcH:cut (byC (fh x)) 0 32=byC (fh x):=zA hbx;have h1H:(byC (fh x)).length=1*(byC (List.replicate 32 0)).length:=by rw[hbx];rfl
   generalize zM fi fh pre=F at *
   rcases Nat.eq_zero_or_pos F.length with hF0|hpos
   ·obtain rfl:=List.length_eq_zero_iff.1 hF0;have i2:=hI.ok ⟨g2,59,[.slice none 0 0]⟩ (List.mem_append_left _ (List.mem_cons_self ..));have b5:q5 ∉ [g2]:=by simp;omega
    have hm0:Me W [g2] [⟨g2,59,[.slice none 0 0]⟩] W:=⟨.refl _ _,by simpa using i2,by simp,by simp⟩
    suffices HH:WI (some lr) 1 Tryz.prog W [g2] 26 _ (ownPostG w4.heap.size (KpB (gB::BS)) I (fun _ _ _=>False) (pre++[x]) W) [(4,.int .i64 0),(5,pt q5),(0,pt P),(2,pt g2)] [⟨g2,59,[.slice none 0 0]⟩] from HH a' W e1 e2 e3 hm0
    refine WI.block (WI.seq (WI.region ?_ (by exact hQ)));refine WO.auto (k:=?_);refine WO.auto (k:=?_);refine WO.nil (WX.seqI ?_);refine WI.condT rfl ?_;refine WI.region ?_ (by exact hQ);refine WO.auto (k:=?_);refine WO.does (zm (vs:=byC (fh x)) (hs:=s5) (hb:=b5) (hle:=Nat.le_refl _) (hc:=by rw[Nat.sub_self];exact zA hbx) (hl:=hbx)) ?_;refine WO.makes (zh (cs:=byC (fh x)) rfl (by decide) (tH hbx)) ?_;intro gT;refine WO.appNZ (z:=byC (List.replicate 32 0)) (ys:=byC (fh x)) (m:=1) rfl rfl rfl (Rds.own (m:=32) Hs.a hcH) h1H (by decide) (by decide) (by decide) (by decide) (fun g1 c1 a2 a3=>?_);refine Ta ?_;refine WO.nil (WX.blk_normal ?_);intro a2' W2 f1 f2 f3 f4;exact hfin g1 c1 a2' W2 a3 a2 (Lle.me (by simp only[List.nil_append,List.length_singleton,oM,lW,agV,rwL,List.flatMap_cons,List.flatMap_nil,List.append_nil];(repeat (first|exact Lle.nil|refine Lle.c ?_))) f4)
   ·have i2:=hI.ok ⟨g2,59,[oM gO cO F]⟩ (List.mem_append_left _ (List.mem_cons_self ..));have hsl:oM gO cO F=.slice (some ⟨gO,0,none⟩) F.length cO:=yd hpos;have hrl:lW gO cO F=[⟨gO,53,F.flatMap byC++mkz (cO - F.length) (byC (List.replicate 32 0))⟩]:=ye hpos;have hvv:=ok_one (by decide) ov5 i2;have b5:q5 ∉ [g2,gO]:=by
     have:=hv5 gO F.length cO (hvv.trans hsl);simp;omega
    rw[hsl] at i2;have iO:=hI.ok ⟨gO,53,F.flatMap byC++mkz (cO - F.length) (byC (List.replicate 32 0))⟩ (List.mem_append_left _ (List.mem_cons_of_mem _ (by rw[hrl];exact List.mem_singleton.2 rfl)));have hg2O:g2≠gO:=by
     have hnd:=hI.nodup;rw[hrl] at hnd;intro e;simp[e] at hnd
    have hm0:Me W [g2,gO] [⟨g2,59,[.slice (some ⟨gO,0,none⟩) F.length cO]⟩,⟨gO,53,F.flatMap byC++mkz (cO - F.length) (byC (List.replicate 32 0))⟩] W:=⟨.refl _ _,fun e he=>(List.mem_cons.1 he).elim (fun h=>h ▸ i2) (fun he=>(List.mem_singleton.1 he) ▸ iO),by simp,by simpa using hg2O⟩;have hfin' : ∀ (g1 c1:Nat) (a2:Act) (W2:World),F.length+1≤c1→c1<9223372036854775808→Me W [g2,gO] [⟨g2,59,[.slice (some ⟨g1,0,none⟩) (F.length+1) c1]⟩,⟨g1,53,(F.flatMap byC++byC (fh x))++mkz (c1 - (F.length+1)) (byC (List.replicate 32 0))⟩] W2→ownPostG w4.heap.size (KpB (gB::BS)) I (fun _ _ _=>False) (pre++[x]) W .normal a2 W2:=by
     intro g1 c1 a2 W2 r1 r2 f4;have hfl:(F++[fh x]).length=F.length+1:=by simp
     refine hfin g1 c1 a2 W2 r1 r2 ?_;show Me W ((⟨g2,59,[oM gO cO F]⟩::lW gO cO F).map Ent.g) (⟨g2,59,[agV g1 c1 (F++[fh x]).length (F++[fh x]).length]⟩::rwL 53 g1 ((F++[fh x]).flatMap byC) (mkz (c1 - (F++[fh x]).length) (byC (List.replicate 32 0))) (F++[fh x]).length) W2;rw[yd Om,ye Om,hfl,List.flatMap_append];show Me W (g2::(lW gO cO F).map Ent.g) _ W2;rw[hrl];simpa using f4
    suffices HH:WI (some lr) 1 Tryz.prog W [g2,gO] 26 _ (ownPostG w4.heap.size (KpB (gB::BS)) I (fun _ _ _=>False) (pre++[x]) W) [(4,.int .i64 0),(5,pt q5),(0,pt P),(2,pt g2)] [⟨g2,59,[.slice (some ⟨gO,0,none⟩) F.length cO]⟩,⟨gO,53,F.flatMap byC++mkz (cO - F.length) (byC (List.replicate 32 0))⟩] from HH a' W e1 e2 e3 hm0
    refine WI.block (WI.seq (WI.region ?_ (by exact hQ)));refine WO.auto (k:=?_);refine WO.auto (k:=?_);refine WO.nil (WX.seqI ?_);refine WI.condT rfl ?_;refine WI.region ?_ (by exact hQ);refine WO.auto (k:=?_);refine WO.does (zm (vs:=byC (fh x)) (hs:=s5) (hb:=b5) (hle:=Nat.le_refl _) (hc:=by rw[Nat.sub_self];exact zA hbx) (hl:=hbx)) ?_;refine WO.makes (zh (cs:=byC (fh x)) rfl (by decide) (tH hbx)) ?_;intro gT;refine WO.appKZ (z:=byC (List.replicate 32 0)) (m:=1) (l:=F.length+1) rfl rfl rfl (xs:=F.flatMap byC) (ys:=byC (fh x)) hF32 hc1 Pk.a (Rds.own (m:=32) Hs.a hcH) h1H (zT _) rfl Om hc2 Om (by decide) (by decide) (fun g1 c1 a2 a3=>?_);refine Ta ?_;refine WO.nil (WX.blk_normal ?_);intro a2' W2 f1 f2 f3 f4;exact hfin' g1 c1 a2' W2 a3 a2 (Lle.me (by repeat (first|exact Lle.nil|refine Lle.c ?_)) f4)
  ·rw[if_neg h0,List.append_nil] at hsn;have h0' : decide (((fi x:Nat):Int)=0)=false:=decide_eq_false Om
   suffices HH:WI (some lr) 1 Tryz.prog W [] 26 _ (ownPostG w4.heap.size (KpB (gB::BS)) I (fun _ _ _=>False) (pre++[x]) W) [(4,.int .i64 (fi x:Int)),(5,pt q5),(0,pt P),(2,pt g2)] [] from HH a' W e1 e2 e3 (Me.refl W [])
   refine WI.block (WI.seq (WI.region ?_ (by exact hQ)));refine WO.auto (k:=?_);refine WO.does (oQ rfl rfl h0') ?_;refine WO.nil (WX.seqI ?_);refine WI.condF rfl ?_;refine WI.skip (WX.blk_normal ?_);intro a2 W2 f1 f2 f3 f4;refine⟨⟨f4.mod.size,fun k o hk0 hk hc=>(f4.mod.block k (Array.getElem?_eq_some_iff.1 hk).1 (by simp)).trans hk⟩,hkK f4.mod (fun k hk=>by simp),(hI0 _ _).2 ⟨gO,cO,?_⟩⟩;rw[hsn];exact⟨⟨hc1,hc2⟩,hI.below f4.mod.below,Nat.le_trans hIs f4.mod.size⟩
 case done =>
  rintro D ys W hD rfl hIa hK;obtain⟨gO,cO,⟨hc1,hc2⟩,hI,hIs⟩:=(hI0 _ _).1 hIa;have hlD:D<W.heap.size:=(Array.getElem?_eq_some_iff.1 hK).1;have hall:=List.all_eq_true.1 (pI (g2:=g2) (gB:=gB) (P:=P) (gO:=gO) (cO:=cO) (v:=oM gO cO (zM fi fh (uY hk 8))) (F:=zM fi fh (uY hk 8)));have i2:=hI.ok ⟨g2,59,[oM gO cO (zM fi fh (uY hk 8))]⟩ (List.mem_append_left _ (List.mem_cons_self ..));have hm0:Me W [g2] [⟨g2,59,[oM gO cO (zM fi fh (uY hk 8))]⟩] W:=⟨.refl _ _,by simpa using i2,by simp,by simp⟩;have hPW:Seg W P 0 (plC p q g h f sec (.slice pN n cN) ep gM lv):=w1.mod hI.mod (by simp);have hD2:D≠g2:=fun e=>by
   rw[e] at hK;exact i2.far rfl hK rfl
  generalize zM fi fh (uY hk 8)=F at *;have hE:=kW p q g h f sec ep gM P lv pN n cN F.length hf1 hf2;obtain⟨pO,c',r1,r2,r3⟩:=abv (g:=gO) hc1;have hI' : Me w [] ([⟨g2,59,[oM gO cO F]⟩]++(lW gO cO F++[⟨gB,37,[pt P]⟩])) W:=hI;rw[r1] at hm0 hI';have hP2:P ∉ [g2]:=by have:=w3 P hPB;simp;omega
  have hfin:∀ {v:Value} {W3:World},Me W [g2] [⟨g2,59,[v]⟩] W3→Me w [] (⟨g2,59,[v]⟩::(lW gO cO F++[⟨gB,37,[pt P]⟩])) W3∧W3.heap[D]?=some (.deferred (some [])):=fun f4=>⟨Me.callL (M:=[⟨g2,59,[.slice pO F.length c']⟩]) hI' f4,(f4.mod.block D hlD (by simpa using hD2)).trans hK⟩;have hno:∀ (v:Value),∀ e∈(⟨g2,59,[v]⟩::(lW gO cO F++[⟨gB,37,[pt P]⟩]):List Ent),e.k.map=false:=fun v e he=>by
   have:=List.all_eq_true.1 (pI (g2:=g2) (gB:=gB) (P:=P) (gO:=gO) (cO:=cO) (v:=v) (F:=F)) e he;simpa using this
  have hDw:w.heap.size≤D:=Nat.le_trans hn0 hD;obtain⟨b,hbb⟩ : ∃ b,decide ((n:Int) - f≤(F.length:Int))=b:=⟨_,rfl⟩;rw[hbb] at hE ⊢;refine wp_seq (wp_seq (WO.tailR (w0:=W) (gs:=[g2]) (n:=26) (K:=[(0,pt P),(2,pt g2)]) (L:=[⟨g2,59,[.slice pO F.length c']⟩]) (ds:=[{ target:=.collected D,args:=#[] }]) (by rw[d1]) d2 (Kle.kn d3 (by repeat (first|exact Kle.nil|refine Kle.cons rfl rfl ?_))) hm0 ?_))
  iterate 3 refine WO.auto (k:=?_)
  refine WO.acallR (hc:=hE) (hR:=fun wx hm=>hPW.mod hm.mod hP2) (k:=?_);refine WO.auto (k:=?_);refine WO.nil ?_;intro a2 W2 f1 f2 f3 f4;cases b with
  | false =>
   refine wp_cond_true (f3.eval (x:=.tmp 23) rfl) ?_;refine WO.tail (w0:=W) (gs:=[g2]) (n:=26) (K:=[(0,pt P),(2,pt g2)]) (L:=[⟨g2,59,[.slice pO F.length c']⟩]) (ds:=[{ target:=.collected D,args:=#[] }]) (by simp[dfA,f1]) f2 (Kle.kn f3 (by repeat (first|exact Kle.nil|refine Kle.cons rfl rfl ?_))) f4 ?_;refine Ta ?_;refine WO.auto (k:=?_);refine WO.nil ?_;intro a3 W3 g1 g2' g3 g4;obtain⟨m1,m2⟩:=hfin g4;refine wp_ret ?_;refine tQ (D:=D) (w:=w) (a:=a3) (by simp[dfA,g1]) g3 m1 hDw m2 (hno _) (au rfl (uc rfl Hs.here rfl) (zo rfl)) Lle.nil ⟨fun _=>rfl,fun e=>by cases e⟩
  | true =>
   have hC:=acJ (c:=c') pO F.length r2;refine wp_cond_false (f3.eval (x:=.tmp 23) rfl) ?_;refine wp_skip ?_;refine WO.tail (w0:=W) (gs:=[g2]) (n:=26) (K:=[(0,pt P),(2,pt g2)]) (L:=[⟨g2,59,[.slice pO F.length c']⟩]) (ds:=[{ target:=.collected D,args:=#[] }]) (by simp[dfA,f1]) f2 (Kle.kn f3 (by repeat (first|exact Kle.nil|refine Kle.cons rfl rfl ?_))) f4 ?_;refine WO.auto (k:=?_);refine WO.acallR (hc:=hC) (hR:=fun wx hm=>trivial) (k:=?_);refine Ta ?_;refine WO.auto (k:=?_);refine WO.nil ?_;intro a3 W3 g1 g2' g3 g4;rw[r3] at g4;obtain⟨m1,m2⟩:=hfin g4;refine wp_ret ?_;refine tQ (D:=D) (w:=w) (a:=a3) (N:=lW gO cO F) (by simp[dfA,g1]) g3 m1 hDw m2 (hno _) (au rfl (uc rfl Hs.here rfl) (zo rfl)) (Lle.skp Lle.left) ⟨(fun e=>by cases e),fun _=>⟨gO,cO,rfl,rfl⟩⟩
 case stop =>
  rintro D c pre W _ _ h _;exact h.elim
end
end Sx
end
end Go.Proofs.YtiiefkchpicncaaGreatDoor
