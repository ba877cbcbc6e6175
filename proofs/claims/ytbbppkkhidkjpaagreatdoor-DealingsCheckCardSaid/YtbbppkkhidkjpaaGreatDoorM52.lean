/- DealingsCheck is proved, for any setting, dealing and polynomial that read as data; condition: what errors.errorType holds, which the card ties. -/
import Derived.Test.YtbbppkkhidkjpaaGreatDoorM51
import Derived.ChangeArms
import Derived.OpenShut
import Derived.DataReads
import Derived.WideShapes
import Derived.Test.YtbbppkkhidkjpaaGreatDoorCards
import Derived.Test.YtbbppkkhidkjpaaGreatDoorTie
import Derived.ProofKit
import Derived.LaidMore
import Derived.Stop.Joined
import Derived.SevenTiedAt
set_option linter.unusedSimpArgs false
set_option linter.unusedVariables false
set_option maxHeartbeats 8000000
namespace Go.Proofs.YtbbppkkhidkjpaaGreatDoor
section
open Go Go.RowKit Go.BigFrame
namespace Sx
attribute [local irreducible] DQ DQS WC WI WO WX wd
section
variable {w0:World} {gs:List Nat} {K:List (Nat × Value)} {L:List Ent}
theorem ba (b:Bool) (w:World):(binOp .eql 4 (.bool b) (.bool b)).run Tryz.prog w=.ok (.bool true) w:=by cases b<;>kernel_rfl
theorem acA {x y:Operand} {yt ty:TypeId} {b:Bool} (hx:ev K x=some (.bool b)) (hy:ev K y=some (.bool b)):Does Tryz.prog w0 gs K L (.binOp .eql 4 x y yt) ty (.bool true):=by
 intro ac w hk _ o ho _;simp only[execOp,ho,hk.eval hx,hk.eval hy,Sem.run_bind,jp,Result.andThen_ok,ba,Sem.run_pure]
end
section
variable (p q g h:Nat) (f sec:Int) (pN pV pY pP:Option Addr) (cN cV cY cP:Nat) (N:List (Nat × Nat)) (ep d:Nat) (V Y:List Nat) (Pr:List (Nat × Nat)) (sC sS:Nat) (l:List Nat) (pz:Option Addr) (cz:Nat)
theorem lM (hgr:(100:Int)<(N.length:Int)∨(100:Int)<(l.length:Int)) :
  Fn Tryz.prog 3 [stV p q g h f sec (.slice pN N.length cN),dlV ep d (.slice pV V.length cV) (.slice pY Y.length cY) (.slice pP Pr.length cP) sC sS,.slice pz l.length cz]
   (fun w=>((RdF vm (.slice pN N.length cN) N w∧RdF zc (.slice pV V.length cV) V w∧RdF zc (.slice pY Y.length cY) Y w∧RdF pfC (.slice pP Pr.length cP) Pr w)∧RdF zc (.slice pz l.length cz) l w)∧mh w) (Is (.bool true)):=by
 have hG:Fn Tryz.prog 4 [stV p q g h f sec (.slice pN N.length cN),gdV 0 0 (.slice pz l.length cz) 0] Tr (Is (.bool true)):=by
  by_cases h0:(100:Int)<(N.length:Int)
  ·exact aaf p q g h f sec 0 0 0 pN pz N.length l.length cN cz h0
  ·exact cO p q g h f sec 0 0 0 pN pz N.length l.length cN cz h0 (hgr.resolve_left h0)
 refine Fn.enter Tryz.func3 rfl rfl rfl ?_;intro w hw
 repeat (first|refine Ta ?_|(refine Tm ?_;intro _)|refine WO.acall (hc:=hG) (k:=?_)|refine Tc ?_|exact Tz)
 done
theorem kq (hN:N.length≤100) (hl:l.length≤100) (hgr:100<V.length∨(V.length≤100∧100<Y.length)∨(V.length≤100∧Y.length≤100∧100<Pr.length)) :
  Fn Tryz.prog 3 [stV p q g h f sec (.slice pN N.length cN),dlV ep d (.slice pV V.length cV) (.slice pY Y.length cY) (.slice pP Pr.length cP) sC sS,.slice pz l.length cz]
   (fun w=>((RdF vm (.slice pN N.length cN) N w∧RdF zc (.slice pV V.length cV) V w∧RdF zc (.slice pY Y.length cY) Y w∧RdF pfC (.slice pP Pr.length cP) Pr w)∧RdF zc (.slice pz l.length cz) l w)∧mh w) (Is (.bool true)):=by
 have hG:=ig p q g h f sec 0 0 0 pN pz N.length l.length cN cz (by omega) (by omega)
 rcases hgr with h1|⟨h1,h2⟩|⟨h1,h2,h3⟩ <;>
  (refine Fn.enter Tryz.func3 rfl rfl rfl ?_;intro w hw;(repeat (first|refine WO.does (yH rfl rfl (by omega)) ?_|refine WO.does (qB rfl rfl (by omega)) ?_|refine Ta ?_|(refine Tm ?_;intro _)|refine WO.acall (hc:=hG) (k:=?_)|refine Tc ?_|exact Tz)))
theorem ack (hp:p<zb) (hq:q<zb) (hg:g<zb) (hh:h<zb) (hN:vh N) (hNl:N.length≤100) (hl:∀ a∈l,a<zb) (hn:l.length≤100)
  (hf1 : -9223372036854775808≤f) (hf2:f≤9223372036854775807) (hs1 : -9223372036854775808≤sec) (hs2:sec≤9223372036854775807)
  (hep:ep<18446744073709551616) (hd:d<256) (hV:∀ a∈V,a<zb) (hY:∀ a∈Y,a<zb) (hPr:vh Pr) (hVl:V.length≤100) (hYl:Y.length≤100) (hPl:Pr.length≤100) (hsC:sC<zb) (hsS:sS<zb) :
  Fn Tryz.prog 3 [stV p q g h f sec (.slice pN N.length cN),dlV ep d (.slice pV V.length cV) (.slice pY Y.length cY) (.slice pP Pr.length cP) sC sS,.slice pz l.length cz]
   (fun w=>((RdF vm (.slice pN N.length cN) N w∧RdF zc (.slice pV V.length cV) V w∧RdF zc (.slice pY Y.length cY) Y w∧RdF pfC (.slice pP Pr.length cP) Pr w)∧RdF zc (.slice pz l.length cz) l w)∧mh w) (Is (.bool true)):=by
 have hG:=ig p q g h f sec 0 0 0 pN pz N.length l.length cN cz (by omega) (by omega);have hTS:=nn p q g h f sec pN cN N hNl;have hTN:=rq l pz cz hn;have hTD:=np ep d sC sS pV pY pP cV cY cP V Y Pr hVl hYl hPl;have hK1:=fun gN tV tY tP=>qM p q g h f sec (some ⟨gN,0,none⟩) (some ⟨tV,0,none⟩) (some ⟨tY,0,none⟩) (some ⟨tP,0,none⟩) (N.length+1) (V.length+1) (Y.length+1) (Pr.length+1) N ep d V Y Pr sC sS hp hq hg hh hN hNl hf1 hf2 hs1 hs2 hd hV hY hPr hVl hYl hPl hsC hsS;have hK2:=dM p q g h f sec pN pV pY pP cN cV cY cP N ep d V Y Pr sC sS hp hq hg hh hN hNl hf1 hf2 hs1 hs2 hep hd hV hY hPr hVl hYl hPl hsC hsS;have hH1:=fun tV tY tP=>jI ep d sC sS (some ⟨tV,0,none⟩) (some ⟨tY,0,none⟩) (some ⟨tP,0,none⟩) (V.length+1) (Y.length+1) (Pr.length+1) V Y Pr hd (by omega) (by omega) (by omega);have hH2:=mL ep d sC sS pV pY pP cV cY cP V Y Pr hep hd (by omega) (by omega) (by omega);have hW1:=fun gN tV tY tP gL=>abH p q g h f sec (some ⟨gN,0,none⟩) (some ⟨tV,0,none⟩) (some ⟨tY,0,none⟩) (some ⟨tP,0,none⟩) (N.length+1) (V.length+1) (Y.length+1) (Pr.length+1) N ep d V Y Pr sC sS l (some ⟨gL,0,none⟩) (l.length+1) hp hq hg hh hN hNl hf1 hf2 hs1 hs2 hV hVl hl hn;have hW2:=dx p q g h f sec pN pV pY pP cN cV cY cP N ep d V Y Pr sC sS l pz cz hp hq hg hh hN hNl hf1 hf2 hs1 hs2 hV hVl hl hn;have hL1:=fun gN=>nH p q g h f sec pN cN N gN hNl;have hL2:=fun tV tY tP=>nU ep d sC sS pV pY pP cV cY cP V Y Pr tV tY tP hVl hYl hPl;have hL3:=fun gL=>rB l pz cz gL hn;generalize (ckE p q g h f sec N ep d V Y Pr sC sS).getD 0=code at *;have hHb:∀ b∈v7 ep d V Y Pr,b<256:=pS _ _;have hHl:(v7 ep d V Y Pr).length=32:=uv _ _;generalize v7 ep d V Y Pr=H at *;generalize ac4 p q g h f sec N V l=bS at *;refine Fn.enter Tryz.func3 rfl rfl rfl ?_;intro w hw;obtain⟨⟨⟨wN,wV,wY,wP⟩,wl⟩,wH⟩:=hw
 repeat (first|refine WO.does (yH rfl rfl (by omega)) ?_|refine Ta ?_|(refine Tm ?_;intro _)|refine WO.acall (hc:=hG) (k:=?_)|refine Tc ?_|exact Tz)
 rename_i gS gD;refine WO.acallX (hc:=hTS) (hR:=fun w hm=>wN.mod hm.mod) (k:=fun s1 _=>?_);generalize s1 0=gN;clear s1
 repeat (first|refine Tw ?_|(refine Tm ?_;intro _)|exact Tz)
 refine WO.acallX (hc:=hTD) (hR:=fun w hm=>⟨wV.mod hm.mod,wY.mod hm.mod,wP.mod hm.mod⟩) (k:=fun s2 _=>?_);generalize s2 0=tV;generalize s2 1=tY;generalize s2 2=tP;clear s2
 repeat (first|refine Tw ?_|(refine Tm ?_;intro _)|exact Tz)
 refine WO.acallC (hc:=hTN) (hR:=fun w hm=>wl.mod hm.mod) (k:=fun gL=>?_)
 repeat (first|refine Tw ?_|(refine Tm ?_;intro _)|exact Tz)
 refine WC.adraw 41 (k:=?_);refine DQ.does (fun s _=>zz (vs:=stC p q g h f sec (.slice (some ⟨gN,0,none⟩) N.length (N.length+1)))) Dp.const ?_;refine DQ.does (fun s _=>zz (vs:=dlC ep d (.slice (some ⟨tV,0,none⟩) V.length (V.length+1)) (.slice (some ⟨tY,0,none⟩) Y.length (Y.length+1)) (.slice (some ⟨tP,0,none⟩) Pr.length (Pr.length+1)) sC sS)) Dp.const ?_;refine DQ.acallM (hc:=hK1 gN tV tY tP) (hR:=fun w1 hm=>⟨⟨RdF.seg (Hs.sg hm),RdF.seg (Hs.sg hm),RdF.seg (Hs.sg hm),RdF.seg (Hs.sg hm)⟩,wH.mod hm.mod (by simp)⟩) (k:=?_);refine DQ.does (fun s _=>zz (vs:=stC p q g h f sec (.slice pN N.length cN))) Dp.const ?_;refine DQ.does (fun s _=>zz (vs:=dlC ep d (.slice pV V.length cV) (.slice pY Y.length cY) (.slice pP Pr.length cP) sC sS)) Dp.const ?_;refine DQ.acallM (hc:=hK2) (hR:=fun w1 hm=>⟨wN.mod hm.mod,wV.mod hm.mod,wY.mod hm.mod,wP.mod hm.mod⟩) (k:=?_);refine DQ.does (fun s _=>yf rfl rfl rfl) Dp.const ?_
 iterate 1 (first|refine Da ?_|refine Dc ?_)
 refine DQ.does (fun s _=>zz (vs:=dlC ep d (.slice (some ⟨tV,0,none⟩) V.length (V.length+1)) (.slice (some ⟨tY,0,none⟩) Y.length (Y.length+1)) (.slice (some ⟨tP,0,none⟩) Pr.length (Pr.length+1)) sC sS)) Dp.const ?_;refine DQ.acallM (hc:=hH1 tV tY tP) (hR:=fun w1 hm=>⟨RdF.seg (Hs.sg hm),RdF.seg (Hs.sg hm),RdF.seg (Hs.sg hm)⟩) (k:=?_);refine DQ.does (fun s _=>zz (vs:=dlC ep d (.slice pV V.length cV) (.slice pY Y.length cY) (.slice pP Pr.length cP) sC sS)) Dp.const ?_;refine DQ.acallM (hc:=hH2) (hR:=fun w1 hm=>⟨wV.mod hm.mod,wY.mod hm.mod,wP.mod hm.mod⟩) (k:=?_);refine DQ.does (fun s _=>aX hHb hHl rfl rfl) Dp.const ?_
 iterate 2 (first|refine Da ?_|refine Dc ?_)
 refine DQ.does (fun s _=>zz (vs:=stC p q g h f sec (.slice (some ⟨gN,0,none⟩) N.length (N.length+1)))) Dp.const ?_;refine DQ.does (fun s _=>zz (vs:=dlC ep d (.slice (some ⟨tV,0,none⟩) V.length (V.length+1)) (.slice (some ⟨tY,0,none⟩) Y.length (Y.length+1)) (.slice (some ⟨tP,0,none⟩) Pr.length (Pr.length+1)) sC sS)) Dp.const ?_
 iterate 1 (first|refine Da ?_|refine Dc ?_)
 refine DQ.acallM (hc:=hW1 gN tV tY tP gL) (hR:=fun w1 hm=>⟨RdF.seg (Hs.sg hm),RdF.seg (Hs.sg hm),RdF.seg (Hs.sg hm)⟩) (k:=?_);refine DQ.does (fun s _=>zz (vs:=stC p q g h f sec (.slice pN N.length cN))) Dp.const ?_;refine DQ.does (fun s _=>zz (vs:=dlC ep d (.slice pV V.length cV) (.slice pY Y.length cY) (.slice pP Pr.length cP) sC sS)) Dp.const ?_
 iterate 1 (first|refine Da ?_|refine Dc ?_)
 refine DQ.acallM (hc:=hW2) (hR:=fun w1 hm=>⟨wN.mod hm.mod,wV.mod hm.mod,wl.mod hm.mod⟩) (k:=?_);refine DQ.does (fun s _=>acA rfl rfl) Dp.const ?_
 iterate 2 (first|refine Da ?_|refine Dc ?_)
 refine DQ.does (fun s _=>zz (vs:=stC p q g h f sec (.slice (some ⟨gN,0,none⟩) N.length (N.length+1)))) Dp.const ?_;refine DQ.does (fun s _=>zz (vs:=stC p q g h f sec (.slice pN N.length cN))) Dp.const ?_;refine DQ.acallM (hc:=hL1 gN) (hR:=fun w1 hm=>⟨Hs.sg hm,wN.mod hm.mod⟩) (k:=?_)
 iterate 2 (first|refine Da ?_|refine Dc ?_)
 refine DQ.does (fun s _=>zz (vs:=dlC ep d (.slice (some ⟨tV,0,none⟩) V.length (V.length+1)) (.slice (some ⟨tY,0,none⟩) Y.length (Y.length+1)) (.slice (some ⟨tP,0,none⟩) Pr.length (Pr.length+1)) sC sS)) Dp.const ?_;refine DQ.does (fun s _=>zz (vs:=dlC ep d (.slice pV V.length cV) (.slice pY Y.length cY) (.slice pP Pr.length cP) sC sS)) Dp.const ?_;refine DQ.acallM (hc:=hL2 tV tY tP) (hR:=fun w1 hm=>⟨⟨Hs.sg hm,Hs.sg hm,Hs.sg hm⟩,wV.mod hm.mod,wY.mod hm.mod,wP.mod hm.mod⟩) (k:=?_)
 iterate 2 (first|refine Da ?_|refine Dc ?_)
 iterate 2 (first|refine Da ?_|refine Dc ?_)
 refine DQ.acallM (hc:=hL3 gL) (hR:=fun w1 hm=>⟨Hs.sg hm,wl.mod hm.mod⟩) (k:=?_)
 iterate 2 (first|refine Da ?_|refine Dc ?_)
 refine DQ.anil (hL:=fun s=>rfl) ?_;intro sx _
 repeat (first|refine Tw ?_|(refine Tm ?_;intro _)|exact Tz)
 done
theorem qW (hp:p<zb) (hq:q<zb) (hg:g<zb) (hh:h<zb) (hN:vh N) (hl:∀ a∈l,a<zb)
  (hf1 : -9223372036854775808≤f) (hf2:f≤9223372036854775807) (hs1 : -9223372036854775808≤sec) (hs2:sec≤9223372036854775807)
  (hep:ep<18446744073709551616) (hd:d<256) (hV:∀ a∈V,a<zb) (hY:∀ a∈Y,a<zb) (hPr:vh Pr) (hsC:sC<zb) (hsS:sS<zb) :
  Fn Tryz.prog 3 [stV p q g h f sec (.slice pN N.length cN),dlV ep d (.slice pV V.length cV) (.slice pY Y.length cY) (.slice pP Pr.length cP) sC sS,.slice pz l.length cz]
   (fun w=>((RdF vm (.slice pN N.length cN) N w∧RdF zc (.slice pV V.length cV) V w∧RdF zc (.slice pY Y.length cY) Y w∧RdF pfC (.slice pP Pr.length cP) Pr w)∧RdF zc (.slice pz l.length cz) l w)∧mh w) (Is (.bool true)):=by
 by_cases h1:N.length≤100∧l.length≤100
 ·by_cases h3:V.length≤100∧Y.length≤100∧Pr.length≤100
  ·exact ack p q g h f sec pN pV pY pP cN cV cY cP N ep d V Y Pr sC sS l pz cz hp hq hg hh hN h1.1 hl h1.2 hf1 hf2 hs1 hs2 hep hd hV hY hPr h3.1 h3.2.1 h3.2.2 hsC hsS
  ·exact kq p q g h f sec pN pV pY pP cN cV cY cP N ep d V Y Pr sC sS l pz cz h1.1 h1.2 (by omega)
 ·exact lM p q g h f sec pN pV pY pP cN cV cY cP N ep d V Y Pr sC sS l pz cz (by omega)
end
end Sx
end
section
open Go Go.RowKit Go.BigFrame Go.WideShapes
namespace Sx
theorem yD (cs:List Value) (a b c:Nat):cut cs a b++cut cs (a+b) c=cut cs a (b+c):=by
 unfold cut;rw[List.take_add,List.drop_drop]
section
variable {H:Type} {enc:TypeId × Value→H} {P:Program} {w:World} {base:Nat} {spare:Nat→Bool} {held:Bool} {fuel:Nat} {cs:List Value} {x:DataW H × List MemPlace}
theorem uC {t:TypeId} {fs:Array Field} {m:Nat} (ht:P.underlying t=some (.struct fs)) (hm:P.cellsOf t=m) (h:DataW.trod enc P w base spare held fuel t cs=some x):cs.length=m:=by
 obtain⟨xs,n,_,_,hl,_⟩:=DataW.trod_struct ht h;rw[hl,hm]
theorem zT {t:TypeId} {fs:Array Field} (ht:P.underlying t=some (.struct fs)) (h:DataW.trod enc P w base spare held fuel t cs=some x) {i off ty sz:Nat} {f:Field} (hf:fs[i]?=some f) (ho:f.offset=off) (hty:f.type=ty) (hs:P.cellsOf ty=sz) :
  ∃ n y,DataW.trod enc P w base spare held n ty (cut cs off sz)=some y:=by
 obtain⟨xs,n,_,_,_,hlen,hp⟩:=DataW.trod_struct ht h;have h1:=hp i f hf;subst ho hty hs;have hi:i<xs.length:=by
  rw[hlen]
  rcases Nat.lt_or_ge i fs.size with h2|h2
  ·exact h2
  ·rw[Array.getElem?_eq_none h2] at hf;cases hf
 rw[List.getElem?_eq_getElem hi] at h1;exact⟨n,_,h1⟩
theorem tb {t:TypeId} (ht:P.underlying t=some (.int .u64)) (h:DataW.trod enc P w base spare held fuel t cs=some x):∃ n:Nat,n<18446744073709551616∧cs=[.int .u64 (n:Int)]:=by
 obtain⟨n,rfl,_,hw⟩:=DataW.trod_int ht h;simp only[Lit.wf,IntKind.min,IntKind.max,IntKind.signed,IntKind.bits,Bool.and_eq_true,decide_eq_true_eq] at hw;have h1:(0:Int)≤n:=by simpa using hw.1
 have h2:n≤18446744073709551615:=by simpa using hw.2
 exact⟨n.toNat,by omega,by rw[Int.toNat_of_nonneg h1]⟩
theorem ah {t:TypeId} (ht:P.underlying t=some (.int .u8)) (h:DataW.trod enc P w base spare held fuel t cs=some x):∃ n:Nat,n<256∧cs=[.int .u8 (n:Int)]:=by
 obtain⟨n,rfl,_,hw⟩:=DataW.trod_int ht h;simp only[Lit.wf,IntKind.min,IntKind.max,IntKind.signed,IntKind.bits,Bool.and_eq_true,decide_eq_true_eq] at hw;have h1:(0:Int)≤n:=by simpa using hw.1
 have h2:n≤255:=by simpa using hw.2
 exact⟨n.toNat,by omega,by rw[Int.toNat_of_nonneg h1]⟩
theorem mF {t:TypeId} (ht:P.underlying t=some (.int .i64)) (h:DataW.trod enc P w base spare held fuel t cs=some x):∃ n:Int,-9223372036854775808≤n∧n≤9223372036854775807∧cs=[.int .i64 n]:=by
 obtain⟨n,rfl,_,hw⟩:=DataW.trod_int ht h;simp only[Lit.wf,IntKind.min,IntKind.max,IntKind.signed,IntKind.bits,Bool.and_eq_true,decide_eq_true_eq] at hw;exact⟨n,by simpa using hw.1,by simpa using hw.2,rfl⟩
theorem dO {t e:TypeId} (ht:P.underlying t=some (.array 4 e)) (he:P.underlying e=some (.int .u64)) (h4:P.cellsOf t=4) (h1:P.cellsOf e=1) (h:DataW.trod enc P w base spare held fuel t cs=some x):∃ n:Nat,n<zb∧cs=zc n:=by
 obtain⟨xs,m,_,_,hl,hlen,hp⟩:=DataW.trod_array ht h;rw[h4] at hl
 match cs,hl with
 | [c0,c1,c2,c3],_ =>
  have k:∀ (i:Nat),i<4→∃ y,DataW.trod enc P w base spare held m e (([c0,c1,c2,c3].drop (i*P.cellsOf e)).take (P.cellsOf e))=some y:=fun i hi=>by
   have h2:=hp i hi;rw[List.getElem?_eq_getElem (by omega)] at h2;exact⟨_,h2⟩
  rw[h1] at k;obtain⟨y0,k0⟩:=k 0 (by omega);obtain⟨y1,k1⟩:=k 1 (by omega);obtain⟨y2,k2⟩:=k 2 (by omega);obtain⟨y3,k3⟩:=k 3 (by omega);obtain⟨a0,b0,e0⟩:=tb he k0;obtain⟨a1,b1,e1⟩:=tb he k1;obtain⟨a2,b2,e2⟩:=tb he k2;obtain⟨a3,b3,e3⟩:=tb he k3;simp at e0 e1 e2 e3;subst e0 e1 e2 e3;obtain⟨w0,w1,w2,w3⟩:=eA b0 b1 b2 b3;exact⟨uZ a0 a1 a2 a3,jj b0 b1 b2 b3,by rw[zc,w0,w1,w2,w3]⟩
theorem Seg.app {b o:Nat} {A B:List Value} (hA:Seg w b o A) (hB:Seg w b (o+A.length) B):Seg w b o (A++B):=by
 intro i v hv
 rcases Nat.lt_or_ge i A.length with h|h
 ·rw[List.getElem?_append_left h] at hv;exact hA i v hv
 ·rw[List.getElem?_append_right h] at hv;have:=hB _ v hv;rwa [show o+A.length+(i - A.length)=o+i by omega] at this
theorem seg_of_cells {b o n:Nat} {l:List Value} (h:w.cells? base ⟨b,o,none⟩ n=some l):Seg w b o l:=by
 obtain⟨_,hl,hc⟩:=World.cells?_some h;intro i v hv;have hi:i<n:=by
  rw[← hl]
  rcases Nat.lt_or_ge i l.length with h1|h1
  ·exact h1
  ·rw[List.getElem?_eq_none h1] at hv;cases hv
 have:=hc i hi;rw[vJ] at this;rw[this,hv]
theorem u5 {α:Type} {f:α→List Value} {ok:α→Prop} {t e:TypeId} {k:Nat} (ht:P.underlying t=some (.slice e)) (hk:P.cellsOf e=k) (hf:∀ a,(f a).length=k)
  (hE:∀ (fuel:Nat) (cs:List Value) (x:DataW H × List MemPlace),DataW.trod enc P w base spare held fuel e cs=some x→∃ a,ok a∧cs=f a)
  (h:DataW.trod enc P w base spare held fuel t cs=some x) (hs:∀ a l c,cs=[.slice (some a) l c]→a.spot=none) :
  ∃ pt xs c,cs=[.slice pt xs.length c]∧(∀ a∈xs,ok a)∧RdF f (.slice pt xs.length c) xs w:=by
 rcases DataW.trod_slice ht h with ⟨rfl,_⟩|⟨a,len,cap,elems,rest,n,_,rfl,_,_,_,_,hlen,hel,_⟩
 ·exact⟨none,[],0,rfl,by simp,none,0,rfl,.inl ⟨rfl,rfl⟩⟩
 have ha:=hs a len cap rfl;obtain⟨b,o,sp⟩:=a;simp only at ha;subst ha;have key:∀ m,m≤len→∃ xs:List α,xs.length=m∧(∀ a∈xs,ok a)∧Seg w b o (xs.flatMap f):=by
  intro m
  induction m with
  | zero=>exact fun _=>⟨[],rfl,by simp,fun i v hv=>by simp at hv⟩
  | succ m ih =>
   intro hm;obtain⟨xs,h1,h2,h3⟩:=ih (by omega);have h4:=hel m (by omega);rw[List.getElem?_eq_getElem (by omega),hk,vJ] at h4;cases h5:w.cells? base ⟨b,o+m*k,none⟩ k with
   | none=>rw[h5] at h4;cases h4
   | some l =>
    rw[h5] at h4;obtain⟨y,hy,rfl⟩:=hE n l _ h4;refine⟨xs++[y],by simp[h1],fun a ha=>?_,?_⟩
    ·rcases List.mem_append.1 ha with ha|ha
     ·exact h2 a ha
     ·obtain rfl:=List.mem_singleton.1 ha;exact hy
    ·rw[List.flatMap_append];refine h3.app ?_;rw[zG hf,h1];simpa using seg_of_cells h5
 obtain⟨xs,rfl,h2,h3⟩:=key len (Nat.le_refl _);exact⟨some ⟨b,o,none⟩,xs,cap,rfl,h2,_,cap,rfl,.inr ⟨b,o,rfl,h3⟩⟩
theorem uM {r:Reach} {b0:Nat} {t u e:TypeId} {cs:Array Value} {ts:List TypeId} {fs:Array Field} {i:Nat} (ht:P.underlying t=some (.struct fs)) (hts:P.cellTypes P.depth t=some ts) (hn:ts.length=P.cellsOf t)
  (hv:Value.okWide P w r b0 t (.agg cs)) (hu:ts[i]?=some u) (hue:P.underlying u=some (.slice e)):∀ a l c,cs[i]?=some (.slice (some a) l c)→a.spot=none:=by
 intro a l c hc;unfold Value.okWide at hv;rw[ht] at hv;obtain⟨cs',h1,h2,ts',h3,_,h4⟩:=hv;cases h1;rw[hts] at h3;cases h3;obtain⟨u',h5,h6⟩:=h4 i _ hc;have hi:i<ts.length:=by
  rcases Nat.lt_or_ge i ts.length with h|h
  ·exact h
  ·rw[List.getElem?_eq_none h] at hu;cases hu
 rw[Nat.mod_eq_of_lt hi,hu] at h5;cases h5;unfold Cell.okWide Cell.ok at h6;rw[hue] at h6;exact h6.2.2.2.1
theorem iH {r:Reach} {b0:Nat} {t e:TypeId} {v:Value} (ht:P.underlying t=some (.slice e)) (h:Value.okWide P w r b0 t v):∃ a l c,v=.slice a l c∧∀ b,a=some b→b.spot=none:=by
 obtain⟨a,l,c,rfl⟩:=okWide_slice ht h;refine⟨a,l,c,rfl,?_⟩;rintro b rfl;simp only[Value.okWide,ht,Cell.okWide,Cell.ok] at h;exact h.2.2.2.1
end
section
variable {H:Type} {enc:TypeId × Value→H} {w:World} {base:Nat} {spare:Nat→Bool} {held:Bool} {fuel:Nat} {cs:List Value} {x:DataW H × List MemPlace}
theorem acC:Tryz.prog.cellsOf 22=1:=by kernel_rfl
theorem aeD:Tryz.prog.cellsOf 5=1:=by kernel_rfl
theorem acM:Tryz.prog.cellsOf 3=1:=by kernel_rfl
theorem tX:Tryz.prog.cellsOf 24=4:=by kernel_rfl
theorem eQ:Tryz.prog.cellsOf 26=16:=by kernel_rfl
theorem adn:Tryz.prog.cellsOf 70=8:=by kernel_rfl
theorem acP:Tryz.prog.cellsOf 27=1:=by kernel_rfl
theorem aaP:Tryz.prog.cellsOf 30=1:=by kernel_rfl
theorem lf:Tryz.prog.cellsOf 29=19:=by kernel_rfl
theorem rD (h:DataW.trod enc Tryz.prog w base spare held fuel 24 cs=some x):∃ n:Nat,n<zb∧cs=zc n:=dO Tryz.underlying24 Tryz.underlying22 tX acC h
theorem aev (h:DataW.trod enc Tryz.prog w base spare held fuel 70 cs=some x):∃ k:Nat × Nat,(k.1<zb∧k.2<zb)∧cs=vm k:=by
 have hl:=uC Tryz.underlying70 adn h;obtain⟨_,_,h0⟩:=zT Tryz.underlying70 h (i:=0) (off:=0) (ty:=24) rfl rfl rfl tX;obtain⟨_,_,h1⟩:=zT Tryz.underlying70 h (i:=1) (off:=4) (ty:=24) rfl rfl rfl tX;obtain⟨a,ha,e0⟩:=rD h0;obtain⟨b,hb,e1⟩:=rD h1;refine⟨(a,b),⟨ha,hb⟩,?_⟩;rw[← yl hl,← yD cs 0 4 4,e0,e1];rfl
theorem abm (h:DataW.trod enc Tryz.prog w base spare held fuel 26 cs=some x):∃ p q g u,p<zb∧q<zb∧g<zb∧u<zb∧cs=zR p q g u:=by
 have hl:=uC Tryz.underlying26 eQ h;obtain⟨_,_,h0⟩:=zT Tryz.underlying26 h (i:=0) (off:=0) (ty:=24) rfl rfl rfl tX;obtain⟨_,_,h1⟩:=zT Tryz.underlying26 h (i:=1) (off:=4) (ty:=24) rfl rfl rfl tX;obtain⟨_,_,h2⟩:=zT Tryz.underlying26 h (i:=2) (off:=8) (ty:=24) rfl rfl rfl tX;obtain⟨_,_,h3⟩:=zT Tryz.underlying26 h (i:=3) (off:=12) (ty:=24) rfl rfl rfl tX;obtain⟨a,ha,e0⟩:=rD h0;obtain⟨b,hb,e1⟩:=rD h1;obtain⟨c,hc,e2⟩:=rD h2;obtain⟨d,hd,e3⟩:=rD h3;refine⟨a,b,c,d,ha,hb,hc,hd,?_⟩;rw[← yl hl,← yD cs 0 4 12,← yD cs (0+4) 4 8,← yD cs (0+4+4) 4 4,e0,e1,e2,e3];rfl
theorem ng {i:Nat} {v:Value} (h:cut cs i 1=[v]):cs[i]?=some v:=by
 have:=tT (j:=0) (v:=v) h rfl;rwa [Nat.add_zero] at this
theorem fJ (h:DataW.trod enc Tryz.prog w base spare held fuel 29 cs=some x) (hs:∀ a l c,cs[18]?=some (.slice (some a) l c)→a.spot=none) :
  ∃ p q g u f sec pt N c,p<zb∧q<zb∧g<zb∧u<zb∧(-9223372036854775808≤f∧f≤9223372036854775807∧-9223372036854775808≤sec∧sec≤9223372036854775807)∧vh N∧cs=stC p q g u f sec (.slice pt N.length c)∧RdF vm (.slice pt N.length c) N w:=by
 have hl:=uC Tryz.underlying29 lf h;obtain⟨_,_,h0⟩:=zT Tryz.underlying29 h (i:=0) (off:=0) (ty:=26) rfl rfl rfl eQ;obtain⟨_,_,h1⟩:=zT Tryz.underlying29 h (i:=1) (off:=16) (ty:=3) rfl rfl rfl acM;obtain⟨_,_,h2⟩:=zT Tryz.underlying29 h (i:=2) (off:=17) (ty:=3) rfl rfl rfl acM;obtain⟨_,_,h3⟩:=zT Tryz.underlying29 h (i:=3) (off:=18) (ty:=27) rfl rfl rfl acP;obtain⟨p,q,g,u,hp,hq,hg,hu,e0⟩:=abm h0;obtain⟨f,hf1,hf2,e1⟩:=mF Tryz.underlying3 h1;obtain⟨sec,hs1,hs2,e2⟩:=mF Tryz.underlying3 h2;obtain⟨pt,N,c,e3,hN,hR⟩:=u5 (f:=vm) (ok:=fun k=>k.1<zb∧k.2<zb) Tryz.underlying27 adn yo (fun _ _ _ h=>aev h) h3 (fun a l c e=>hs a l c (ng e));refine⟨p,q,g,u,f,sec,pt,N,c,hp,hq,hg,hu,⟨hf1,hf2,hs1,hs2⟩,hN,?_,hR⟩;rw[← yl hl,← yD cs 0 16 3,← yD cs (0+16) 1 2,← yD cs (0+16+1) 1 1,e0,e1,e2,e3];rfl
theorem cf:Tryz.prog.cellsOf 67=8:=by kernel_rfl
theorem acW:Tryz.prog.cellsOf 33=8:=by kernel_rfl
theorem cH:Tryz.prog.cellsOf 31=1:=by kernel_rfl
theorem sL:Tryz.prog.cellsOf 35=13:=by kernel_rfl
theorem aa5 (h:DataW.trod enc Tryz.prog w base spare held fuel 67 cs=some x):∃ k:Nat × Nat,(k.1<zb∧k.2<zb)∧cs=pfC k:=by
 have hl:=uC Tryz.underlying67 cf h;obtain⟨_,_,h0⟩:=zT Tryz.underlying67 h (i:=0) (off:=0) (ty:=24) rfl rfl rfl tX;obtain⟨_,_,h1⟩:=zT Tryz.underlying67 h (i:=1) (off:=4) (ty:=24) rfl rfl rfl tX;obtain⟨a,ha,e0⟩:=rD h0;obtain⟨b,hb,e1⟩:=rD h1;refine⟨(a,b),⟨ha,hb⟩,?_⟩;rw[← yl hl,← yD cs 0 4 4,e0,e1];rfl
theorem adV (h:DataW.trod enc Tryz.prog w base spare held fuel 33 cs=some x):∃ a b,a<zb∧b<zb∧cs=yO a b:=by
 have hl:=uC Tryz.underlying33 acW h;obtain⟨_,_,h0⟩:=zT Tryz.underlying33 h (i:=0) (off:=0) (ty:=24) rfl rfl rfl tX;obtain⟨_,_,h1⟩:=zT Tryz.underlying33 h (i:=1) (off:=4) (ty:=24) rfl rfl rfl tX;obtain⟨a,ha,e0⟩:=rD h0;obtain⟨b,hb,e1⟩:=rD h1;refine⟨a,b,ha,hb,?_⟩;rw[← yl hl,← yD cs 0 4 4,e0,e1];rfl
theorem ed (h:DataW.trod enc Tryz.prog w base spare held fuel 35 cs=some x) (hs:∀ i,i=2∨i=3∨i=4→∀ a l c,cs[i]?=some (.slice (some a) l c)→a.spot=none) :
  ∃ ep d pV V cV pY Y cY pP Pr cP sC sS,ep<18446744073709551616∧d<256∧(∀ y∈V,y<zb)∧(∀ y∈Y,y<zb)∧vh Pr∧sC<zb∧sS<zb∧cs=dlC ep d (.slice pV (List.length V) cV) (.slice pY (List.length Y) cY) (.slice pP (List.length Pr) cP) sC sS∧RdF zc (.slice pV V.length cV) V w∧RdF zc (.slice pY Y.length cY) Y w∧RdF pfC (.slice pP Pr.length cP) Pr w:=by
 have hl:=uC Tryz.underlying35 sL h;obtain⟨_,_,h0⟩:=zT Tryz.underlying35 h (i:=0) (off:=0) (ty:=22) rfl rfl rfl acC;obtain⟨_,_,h1⟩:=zT Tryz.underlying35 h (i:=1) (off:=1) (ty:=5) rfl rfl rfl aeD;obtain⟨_,_,h2⟩:=zT Tryz.underlying35 h (i:=2) (off:=2) (ty:=30) rfl rfl rfl aaP;obtain⟨_,_,h3⟩:=zT Tryz.underlying35 h (i:=3) (off:=3) (ty:=30) rfl rfl rfl aaP;obtain⟨_,_,h4⟩:=zT Tryz.underlying35 h (i:=4) (off:=4) (ty:=31) rfl rfl rfl cH;obtain⟨_,_,h5⟩:=zT Tryz.underlying35 h (i:=5) (off:=5) (ty:=33) rfl rfl rfl acW;obtain⟨ep,hep,e0⟩:=tb Tryz.underlying22 h0;obtain⟨d,hd,e1⟩:=ah Tryz.underlying5 h1;obtain⟨pV,V,cV,e2,hVb,hV⟩:=u5 (f:=zc) (ok:=fun y=>y<zb) Tryz.underlying30 tX zy (fun _ _ _ h=>rD h) h2 (fun a l c e=>hs 2 (.inl rfl) a l c (ng e));obtain⟨pY,Y,cY,e3,hYb,hY⟩:=u5 (f:=zc) (ok:=fun y=>y<zb) Tryz.underlying30 tX zy (fun _ _ _ h=>rD h) h3 (fun a l c e=>hs 3 (.inr (.inl rfl)) a l c (ng e));obtain⟨pP,Pr,cP,e4,hPb,hP⟩:=u5 (f:=pfC) (ok:=fun k=>k.1<zb∧k.2<zb) Tryz.underlying31 cf vu (fun _ _ _ h=>aa5 h) h4 (fun a l c e=>hs 4 (.inr (.inr rfl)) a l c (ng e));obtain⟨sC,sS,hsC,hsS,e5⟩:=adV h5;refine⟨ep,d,pV,V,cV,pY,Y,cY,pP,Pr,cP,sC,sS,hep,hd,hVb,hYb,hPb,hsC,hsS,?_,hV,hY,hP⟩;rw[← yl hl,← yD cs 0 1 12,← yD cs (0+1) 1 11,← yD cs (0+1+1) 1 10,← yD cs (0+1+1+1) 1 9,← yD cs (0+1+1+1+1) 1 8,e0,e1,e2,e3,e4,e5];rfl
theorem acS (h:DataW.trod enc Tryz.prog w base spare held fuel 30 cs=some x) (hs:∀ a l c,cs=[.slice (some a) l c]→a.spot=none) :
  ∃ pt l c,cs=[.slice pt (List.length l) c]∧(∀ y∈l,y<zb)∧RdF zc (.slice pt l.length c) l w :=
 u5 (f:=zc) (ok:=fun y=>y<zb) Tryz.underlying30 tX zy (fun _ _ _ h=>rD h) h hs
end
end Sx
end
end Go.Proofs.YtbbppkkhidkjpaaGreatDoor
namespace Go.Proofs.YtbbppkkhidkjpaaGreatDoor.dealingsCheck
section
open Go Go.RowKit Go.BigFrame Go.ChangeShapes Go.WideShapes Go.ChangeAt Sx
theorem own:ownKnob Tryz.prog.godebug=none:=by kernel_rfl
theorem oR:Tryz.prog.cellTypes Tryz.prog.depth 29=some (List.replicate 16 22++[3,3,27]):=by kernel_rfl
theorem uI:Tryz.prog.cellTypes Tryz.prog.depth 35=some ([22,5,30,30,31]++List.replicate 8 22):=by kernel_rfl
theorem aea:laidOutB Tryz.prog=true:=by kernel_rfl
theorem ku:Tryz.prog.readableRec 29=true:=by kernel_rfl
theorem k9:Tryz.prog.readableRec 35=true:=by kernel_rfl
theorem aT:Tryz.prog.readableRec 30=true:=by kernel_rfl
abbrev iR:List (String × DataW Unit):=[("errors.errorType",Rows.laid_errors_errorType)]
theorem et:Tryz.prog.globalNamed "errors.errorType"=some 0:=by kernel_rfl
theorem rt:(Tryz.prog.cutTypes.find? (·.1 == "internal/reflectlite.rtype")).map (·.2)=some 200:=by kernel_rfl
theorem acy:((List.range Tryz.prog.types.size).filter fun t=>Tryz.prog.rowNamed t [101,114,114,111,114])=[59]:=by kernel_rfl
theorem pM {W:World} (h:laidMetH Tryz.prog iR W):mh W:=by
 have h' : laidMet Tryz.prog [] W∧handlesMet Tryz.prog iR W:=h;obtain⟨name,u,ty,e1,e2,e3,e4,e5⟩:=h'.2 _ (List.mem_singleton.2 rfl);have en:name=[101,114,114,111,114]:=(Option.some.inj e1).symm;subst en;obtain rfl:=Option.some.inj (rt.symm.trans e2);have hm:ty∈(List.range Tryz.prog.types.size).filter fun t=>Tryz.prog.rowNamed t [101,114,114,111,114]:=List.mem_filter.2 ⟨List.mem_range.2 e3,e4⟩;rw[acy] at hm;obtain rfl:=List.mem_singleton.1 hm;have hh:typeHandle Tryz.prog 59=.pointer (some ⟨3,59,none⟩):=by kernel_rfl
 rw[hh] at e5;have hc:W.cell? ⟨0,0,none⟩=some acr:=by simpa using World.var?_cell et e5 0
 intro i v hv
 match i,hv with
 | 0,hv=>rw[show v=acr from (Option.some.inj hv).symm];exact hc
set_option maxRecDepth 100000 in
theorem bg (os:Os) (args:Array Value):laidMetH Tryz.prog iR ((World.doorLaid Tryz.prog 24 os).forCall (fun _ _=>0) ⟨#[],args,[]⟩).memory :=
 laidMetH_of_parts (laidMet_nil _ _) (by kernel_rfl)
set_option maxRecDepth 100000 in
theorem lifted (os:Os) (started:os.Started) (H:Type) (enc:TypeId × Value→H) :
  ReturnsInHanded {} Tryz.checked os 3 .any (fun w args=>(Rows.dealingsCheckSpec.pre enc Tryz.prog Tryz.f3 [] false w args∧laidMetH Tryz.prog iR w)∧sizedMet enc Tryz.prog Tryz.f3 (OpenSpec.ofChange Rows.dealingsCheckSpec) false w args)
   (Rows.dealingsCheckSpec.post enc Tryz.prog Tryz.f3 false true false false):=by
 refine returnsInHanded_of_change_and (C:=Tryz.checked) (X:=fun w _=>laidMetH Tryz.prog iR w) (fun _ _ _ hh h=>h.of_heap hh) own started (by kernel_rfl) Tryz.func3
  (ChangeSpec.witness_shaped (enc:=enc) (C:=Tryz.checked) (os:=os) (X:=fun w _=>laidMetH Tryz.prog iR w) false (World.doorLaid Tryz.prog 24 os) #[.agg #[.int .u64 0,.int .u64 0,.int .u64 0,.int .u64 0,.int .u64 0,.int .u64 0,.int .u64 0,.int .u64 0,.int .u64 0,.int .u64 0,.int .u64 0,.int .u64 0,.int .u64 0,.int .u64 0,.int .u64 0,.int .u64 0,.int .i64 0,.int .i64 0,.slice none 0 0],
   .agg #[.int .u64 0,.int .u8 0,.slice none 0 0,.slice none 0 0,.slice none 0 0,.int .u64 0,.int .u64 0,.int .u64 0,.int .u64 0,.int .u64 0,.int .u64 0,.int .u64 0,.int .u64 0],.slice none 0 0] 8 rfl (World.shaped_of_RefB (by kernel_rfl) (by kernel_rfl)) (by kernel_rfl) (by kernel_rfl) (by kernel_rfl) (bg os _)) ?_
 intro W base args ds gs before hval0 hW _ _ hL _;have hval:∀ (j:Nat) t v,Tryz.f3.params[j]?=some t→args[j]?=some v→Value.okWide Tryz.prog W .any base t v:=hval0;have hW':=hW;have hlt:=hW.lt;obtain⟨p,q,hA0,hV,rfl,hfz,hnd⟩:=hW;have hA:DataW.TrodAll enc Tryz.prog W 0 (fun _=>true) true Tryz.f3.params.toList args.toList ds p:=hA0;rw[Tryz.params3] at hA hval;obtain⟨v0,v1,v2,d0,d1,d2,p0,p1,p2,rfl,rfl,rfl,h0,h1,h2⟩:=trodAll_three hA;obtain⟨rfl,rfl⟩:=trodVars_none hV;have k0:=hval 0 29 v0 rfl rfl;have k1:=hval 1 35 v1 rfl rfl;have k2:=hval 2 30 v2 rfl rfl;obtain⟨cs0,rfl,_⟩:=okWide_struct Tryz.underlying29 k0;obtain⟨cs1,rfl,_⟩:=okWide_struct Tryz.underlying35 k1;obtain⟨pz,lz,cz,rfl,hz⟩:=iH Tryz.underlying30 k2;obtain⟨f0,t0⟩:=id h0;obtain⟨f1,t1⟩:=id h1;obtain⟨f2,t2⟩:=id h2;obtain⟨pp,qq,gg,uu,ff,sec,pt,N,c,b1,b2,b3,b4,⟨b5,b6,b7,b8⟩,hN,e0,hR⟩:=fJ t0 (fun a l c e=>uM Tryz.underlying29 oR lf.symm k0 (i:=18) (u:=27) rfl Tryz.underlying27 a l c (by simpa [Value.cells] using e))
 obtain⟨ep,d,pV,V,cV,pY,Y,cY,pP,Pr,cP,sC,sS,g1,g2,g3,g4,g5,g6,g7,e1,r1,r2,r3⟩:=ed t1 (fun i hi a l c e=>by
  have e' : cs1[i]?=some (.slice (some a) l c):=by simpa [Value.cells] using e
  rcases hi with rfl|rfl|rfl
  ·exact uM Tryz.underlying35 uI sL.symm k1 (i:=2) (u:=30) rfl Tryz.underlying30 a l c e'
  ·exact uM Tryz.underlying35 uI sL.symm k1 (i:=3) (u:=30) rfl Tryz.underlying30 a l c e'
  ·exact uM Tryz.underlying35 uI sL.symm k1 (i:=4) (u:=31) rfl Tryz.underlying31 a l c e')
 obtain⟨p5,P5,c5,e2,g8,r4⟩:=acS t2 (fun a l c e=>hz a (by simp[Value.cells] at e;exact e.1));have a0:Value.agg cs0=stV pp qq gg uu ff sec (.slice pt N.length c):=by
  have:cs0.toList=stC pp qq gg uu ff sec (.slice pt N.length c):=by simpa [Value.cells] using e0
  rw[← Array.toArray_toList (xs:=cs0),this]
 have a1:Value.agg cs1=dlV ep d (.slice pV V.length cV) (.slice pY Y.length cY) (.slice pP Pr.length cP) sC sS:=by
  have:cs1.toList=dlC ep d (.slice pV V.length cV) (.slice pY Y.length cY) (.slice pP Pr.length cP) sC sS:=by simpa [Value.cells] using e1
  rw[← Array.toArray_toList (xs:=cs1),this]
 have a2:Value.slice pz lz cz=.slice p5 P5.length c5:=by simpa [Value.cells] using e2
 have hF:=qW pp qq gg uu ff sec pt pV pY pP c cV cY cP N ep d V Y Pr sC sS P5 p5 c5 b1 b2 b3 b4 hN g8 b5 b6 b7 b8 g1 g2 g3 g4 g5 g6 g7 W ⟨⟨⟨hR,r1,r2,r3⟩,r4⟩,pM hL⟩;rw[← a0,← a1,← a2] at hF;clear hA0 hval0;simp only[List.append_nil] at hW' hlt;refine Calls.mono hF ?_;rintro e W' ⟨v,Nn,rfl,hb,_,hv⟩;have hv' : v=.bool true:=hv;subst hv';refine⟨_,rfl,[d0,d1,d2],[],p0++(p1++p2),[],p0++(p1++p2),[],?_,?_,?_,rfl,hb.frame _,fun h=>by cases h⟩
 ·rw[← List.append_assoc];exact hW'
 ·exact trodAll_mk1 (shut_bool Tryz.underlying4 true)
 ·exact trodAll_mk3 (WideElems.Trod_stays aea ku (of_decide_eq_true (by kernel_rfl)) h0 (fun x hx=>hb.same (hlt x (by simp[hx]))) (fun x hx=>decide_eq_true (hlt x (by simp[hx]))))
   (WideElems.Trod_stays aea k9 (of_decide_eq_true (by kernel_rfl)) h1 (fun x hx=>hb.same (hlt x (by simp[hx]))) (fun x hx=>decide_eq_true (hlt x (by simp[hx]))))
   (WideElems.Trod_stays aea aT (of_decide_eq_true (by kernel_rfl)) h2 (fun x hx=>hb.same (hlt x (by simp[hx]))) (fun x hx=>decide_eq_true (hlt x (by simp[hx]))))
theorem said:Rows.DealingsCheckSaid :=
 OpenClaim.holds_of_wide 3 Tryz.f3 rfl rfl rfl rfl rfl rfl rfl ⟨rfl,rfl,rfl,rfl,rfl⟩ rfl rfl rfl rfl rfl (by kernel_rfl) Tryz.func3 (by kernel_rfl)
  (of_decide_eq_true (by kernel_rfl)) (by unfold Func.isWrapper;first|(rw[if_pos (by decide +kernel)];kernel_rfl)|(rw[if_neg (by decide +kernel)];exact⟨rfl,rfl⟩))
  (fun os started H enc _=>lifted os started H enc)
theorem proved:Rows.DealingsCheckCardSaid :=
 Claim7.holds_tied_plain_at .later [] [.handle] true (true,"658806962c26a438622653872c1c6c4a3a8905f7d93e5c8f5986fb59de7bd0de") true
  said (fun _ h=>by cases h) (by kernel_rfl) (fun _ h=>by cases h) dealingsCheck_row_tie rfl ⟨rfl,rfl⟩ (by kernel_rfl) rfl
  (fun f fn hf hfn=>by
   obtain rfl:f=3:=Option.some.inj ((show Tryz.prog.funcNamed "balefire/balefirelaw15.DealingsCheck"=some 3 by kernel_rfl).symm.trans hf) |>.symm
   obtain rfl:fn=Tryz.f3:=(Option.some.inj (Tryz.func3.symm.trans hfn)).symm;exact⟨by kernel_rfl,fun j t ht=>by
    rw[Tryz.params3] at ht;have hm:t∈[29,35,30]:=by simpa using Array.mem_of_getElem? ht
    have hall:([29,35,30].all fun u=>!Tryz.prog.wantsStandIn u)=true:=by kernel_rfl
    exact (show Tryz.prog.wantsStandIn t=false by simpa using List.all_eq_true.1 hall t hm)⟩)
  (by kernel_rfl)
end
end Go.Proofs.YtbbppkkhidkjpaaGreatDoor.dealingsCheck
