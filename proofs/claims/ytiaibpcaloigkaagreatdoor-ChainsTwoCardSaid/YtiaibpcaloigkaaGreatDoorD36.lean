/- Part 36 of the proof. -/
import Derived.Test.YtiaibpcaloigkaaGreatDoorD34
set_option linter.unusedSimpArgs false
set_option linter.unusedVariables false
set_option maxHeartbeats 8000000
namespace Go.Proofs.YtiaibpcaloigkaaGreatDoor
section
open Go Go.RowKit Go.BigFrame
namespace Sx
abbrev acu:Value:=.iface 341 (.agg #[.pointer (some ⟨3,174,none⟩)])
abbrev si:World→Prop:=fun w=>Seg w 0 0 [acu]
theorem ab8 (ge gt:Nat):FnL Tryz.prog 148 [.iface 182 (pt ge),.iface 243 (pt gt)] [⟨gt,182,[.pointer none]⟩] si (fun v N=>v=.bool true∧N=[⟨gt,182,[pt ge]⟩]):=by
 intro w hok hnd hw;have hg:=(hok ⟨gt,182,[.pointer none]⟩ Sm).row (show (182:Nat)≠0 by decide);have hlt:=(hok ⟨gt,182,[.pointer none]⟩ Sm).lt;have hc:=(hok ⟨gt,182,[.pointer none]⟩ Sm).cell 0;dsimp only at hg hlt hc;refine (adU ⟨ge,0,none⟩ ⟨gt,0,none⟩ (.pointer none) w (hw 0 _ rfl) (by rw[hc];rfl) (by unfold World.frozen?;rw[hg];rfl)).mono ?_;rintro e w' ⟨rfl,rfl⟩;refine⟨.bool true,_,rfl,?_,rfl,rfl⟩;have h0:Me w [gt] [⟨gt,182,[.pointer none]⟩] w:=⟨.refl _ _,hok,fun e he=>.inr (List.mem_map.2 ⟨e,he,rfl⟩),hnd⟩;generalize hW:(((w.alloc _).alloc _).alloc _).alloc _=W;have hB:Below w.heap.size w W:=by
  subst hW;exact ((((Below.refl w.heap.size w).alloc (Nat.le_refl _) _).alloc Sm _).alloc (by simp;omega) _).alloc (by simp;omega) _
 have h1:=h0.below hB;have hgW:W.heap[gt]?=some (.cells #[.pointer none] 182 (0,0)):=(hB.block gt hlt).trans hg;refine h1.write (g:=gt) (t:=182) (cs:=[.pointer none]) (cs':=[pt ge]) .here rfl rfl rfl (by simp[World.setCell]) (fun k _ hk=>by simp[World.setCell,Array.getElem?_modify,hk,Ne.symm hk]) ?_;simp[World.setCell,Array.getElem?_modify,hgW]
theorem ac6 (v:Value):Fn Tryz.prog 148 [.nilIface,v] Tr (Is (.bool false)):=.of fun w=>(ad7 v w).mono (by rintro e w' ⟨rfl,rfl⟩;exact⟨rfl,Below.refl _ _⟩)
attribute [local irreducible] wd DQ WO WC WX WI
theorem acz:Fn Tryz.prog 76 [.nilIface] Tr (Is (.int .i64 0)):=by
 have hA:=ac6;refine Fn.enter Tryz.func76 rfl rfl rfl ?_;intro w hw
 repeat (first|refine WO.does (vt Kr rfl) ?_|refine Tj ?_|intro _|refine WO.acall (hc:=hA _) (k:=?_)|refine Tc ?_|exact Tz)
 done
theorem abk (ge:Nat) (e:Int):Fn Tryz.prog 76 [.iface 182 (pt ge)] (fun w=>si w∧Seg w ge 0 [.int .i64 e]) (Is (.int .i64 e)):=by
 have hA:=ab8 ge;refine Fn.enter Tryz.func76 rfl rfl rfl ?_;intro w hw;obtain⟨hwH,hwE⟩:=hw
 repeat (first|refine WO.does (vt Kr rfl) ?_|refine Tj ?_|intro _|refine Tc ?_|exact Tz)
 refine WO.callsL (hc:=hA _) (hp:=.cons Pk.a .nil) (fun w' hm=>hwH.mod hm.mod Sm) (fun v N hv=>?_);obtain⟨rfl,rfl⟩:=hv
 try dsimp only[List.cons_append,List.nil_append]
 repeat (first|refine WO.does (zn (hs:=hwE)) ?_|refine Tj ?_|intro _|refine Tc ?_|exact Tz)
 done
theorem nC (e:Int):Fn Tryz.prog 79 [.int .i64 e,.bool true] Tr (Is .nilIface):=by
 refine Fn.enter Tryz.func79 rfl rfl rfl ?_;intro w hw
 repeat (first|refine Tk ?_|intro _|exact Tz)
 done
theorem mb (e:Int):Fn Tryz.prog 79 [.int .i64 e,.bool false] Tr (Ex (fun s=>.iface 182 (pt (s 0))) (fun s=>[⟨s 0,184,[.int .i64 e]⟩]) (fun _=>True)):=by
 refine Fn.enter Tryz.func79 rfl rfl rfl ?_;intro w hw
 repeat (first|refine WO.does (vt Kr rfl) ?_|refine Tj ?_|intro _|refine Tc ?_|exact Tz)
 rename_i gE;exact WX.ret1 rfl Rv.t [⟨gE,184,[.int .i64 e]⟩] (Lle.c Lle.nil) ⟨fun _=>gE,rfl,rfl,trivial⟩
end Sx
end
section
open Go Go.RowKit Go.BigFrame
namespace Sx
section
variable {P:Program} {w0:World} {gs:LN} {K:List (Nat × Value)} {L:List Ent}
theorem nU {x y:Operand} {t yt ty u:TypeId} {v:Value} (hx:ev K x=some (.iface u v)) (hy:ev K y=some .nilIface) (hr:∀ w,(binOp .neq t (.iface u v) .nilIface).run P w=.ok (.bool true) w) (hg:∀ w,(eqGuard .neq t x y (.iface u v) .nilIface).run P w=.ok () w):Does P w0 gs K L (.binOp .neq t x y yt) ty (.bool true):=by
 intro ac w hk _ o ho _;simp only[execOp,ho,hk.eval hx,hk.eval hy,Sem.run_bind,hg,Result.andThen_ok,hr,Sem.run_pure]
theorem oZ {x y:Operand} {t yt ty:TypeId} (hx:ev K x=some .nilIface) (hy:ev K y=some .nilIface) (hr:∀ w,(binOp .neq t .nilIface .nilIface).run P w=.ok (.bool false) w) (hg:∀ w,(eqGuard .neq t x y .nilIface .nilIface).run P w=.ok () w):Does P w0 gs K L (.binOp .neq t x y yt) ty (.bool false):=by
 intro ac w hk _ o ho _;simp only[execOp,ho,hk.eval hx,hk.eval hy,Sem.run_bind,hg,Result.andThen_ok,hr,Sem.run_pure]
end
theorem lZ (v:Value) (w:World):(binOp .neq 174 (.iface 182 v) .nilIface).run Tryz.prog w=.ok (.bool true) w:=Kr
theorem lL (w:World):(binOp .neq 174 .nilIface .nilIface).run Tryz.prog w=.ok (.bool false) w:=Kr
theorem qa (x:Operand) (v:Value) (w:World):(eqGuard .neq 174 x (.const .nilIface) (.iface 182 v) .nilIface).run Tryz.prog w=.ok () w:=Kr
theorem rT (w:World):(eqGuard .neq 174 (.tmp 14) (.const .nilIface) .nilIface .nilIface).run Tryz.prog w=.ok () w:=Kr
def aM:Option Int→Value→List Ent→Prop
 | none=>fun v N=>v=.nilIface∧N=[]
 | some e=>fun v N=>∃ g,v=.iface 182 (pt g)∧N=[⟨g,184,[.int .i64 e]⟩]
abbrev fV (x:Nat × List Value):Value:=.func (.func x.1) #[] x.2.toArray
inductive aa1 (R:World→Prop):List (Nat × List Value)→Option Int→Prop
 | nil:aa1 R [] none
 | hit {f:Nat} {caps:LV} {rest:List (Nat × List Value)} {e:Int}:Cal Tryz.prog f→Fn Tryz.prog f caps R (aM (some e))→aa1 R ((f,caps)::rest) (some e)
 | go {f:Nat} {caps:LV} {rest:List (Nat × List Value)} {r:Option Int}:Cal Tryz.prog f→Fn Tryz.prog f caps R (aM none)→aa1 R rest r→aa1 R ((f,caps)::rest) r
theorem vp (e:Int) (b:Bool):Fn Tryz.prog 79 [.int .i64 e,.bool b] Tr (aM (if b then none else some e)):=by
 cases b with
 | true=>exact fun w hw=>(nC e w hw).mono (by rintro en w1 ⟨v,N,h1,h2,h3,h4⟩;exact⟨v,[],h1,h2,jV.nil _ _,h4,rfl⟩)
 | false=>exact fun w hw=>(mb e w hw).mono (by rintro en w' ⟨v,N,h1,h2,h3,s,h4,h5,_⟩;exact⟨v,N,h1,h2,h3,s 0,h4,h5⟩)
attribute [local irreducible] wd DQ WO WC WX WI
theorem acT {R:World→Prop} (hR:∀ w w',R w→Mod [] w w'→R w') (fs:List (Nat × List Value)) (r:Option Int) (gR c:Nat) (hn:fs.length≤100) (hA:aa1 R fs r) :
  Fn Tryz.prog 77 [AQ gR fs.length c] (fun w=>Seg w gR 0 (fs.map fV)∧R w) (aM r):=by
 refine Fn.enter Tryz.func77 rfl rfl rfl ?_;intro w hw;obtain⟨hwF,hwR⟩:=hw
 repeat (first|refine Tk ?_|intro _|exact Tz)
 refine WC.loopI (σ:=Nat) (fun i=>i≤fs.length∧aa1 R (fs.drop i) r) (fun i=>[(6,AQ gR fs.length c),(7,.int .i64 (fs.length:Int)),(8,.int .i64 (i:Int))]) (fun _=>[]) (fun i=>fs.length - i) 0 (fun i hi=>?_) ⟨Nat.zero_le _,by simpa using hA⟩
 try dsimp only at hi ⊢
 obtain⟨hi,hAi⟩:=hi
 by_cases hlt:i<fs.length
 ·obtain⟨⟨f,caps⟩,hx⟩ : ∃ y,fs[i]?=some y:=⟨_,List.getElem?_eq_getElem hlt⟩;have hd:fs.drop i=(f,caps)::fs.drop (i+1):=by
   obtain⟨h1,h2⟩:=List.getElem?_eq_some_iff.1 hx;rw[List.drop_eq_getElem_cons hlt,h2]
  rw[hd] at hAi;have hcx:(fs.map fV)[0+i*1 - 0]?=some (fV (f,caps)):=by simp[hx]
  have hadd2:IntKind.i64.wrap ((i:Int)+1)=((i+1:Nat):Int):=zl Om Om Om
  repeat (first|refine Tk ?_|intro _|exact Tz)
  refine WC.dT rfl Om ?_
  repeat (first|refine WO.does (zb (o':=0+i*1) rfl rfl hlt rfl) ?_|refine WO.does (zn (v:=fV (f,caps)) (hs:=hwF) (hle:=Nat.zero_le _) (hc:=hcx)) ?_|refine Tj ?_|intro _|refine Tc ?_|exact Tz)
  cases hAi with
  | hit hCal hF =>
   refine WO.calls (fs:=[]) (cs:=caps) hF rfl rfl Sm (fun w1 hm=>hR _ _ hwR hm.mod) (fun v N hv=>?_);obtain⟨gE,rfl,rfl⟩:=hv
   try dsimp only[List.cons_append,List.nil_append]
   repeat (first|refine WO.does (nU rfl rfl (lZ _) (qa _ _)) ?_|refine Tj ?_|intro _|refine Tc ?_|exact Tz)
   exact WX.ret1 rfl Rv.t [⟨gE,184,[.int .i64 _]⟩] (Lle.c Lle.nil) ⟨gE,rfl,rfl⟩
  | go hCal hF hAr =>
   refine WO.calls (fs:=[]) (cs:=caps) hF rfl rfl Sm (fun w1 hm=>hR _ _ hwR hm.mod) (fun v N hv=>?_);obtain⟨rfl,rfl⟩:=hv
   try dsimp only[List.cons_append,List.nil_append]
   repeat (first|refine WO.does (oZ rfl rfl lL rT) ?_|refine WO.does (zj rfl rfl hadd2) ?_|refine Tj ?_|intro _|refine Tc ?_|exact Tz)
   exact WX.metI (i+1) (hs:=⟨⟨by omega,hAr⟩,by show fs.length - (i+1)<fs.length - i;omega⟩)
 ·have hi2:i=fs.length:=by omega
  subst hi2;rw[List.drop_length] at hAi;cases hAi
  repeat (first|refine Tk ?_|intro _|exact Tz)
  refine WC.dF rfl Om ?_
  repeat (first|refine Tk ?_|intro _|exact Tz)
  exact WX.ret1 rfl Rv.t [] Lle.nil ⟨rfl,rfl⟩
end Sx
end
section
open Go Go.RowKit Go.BigFrame
namespace Sx
attribute [local irreducible] DQ WC WI WO WX wd
theorem Lle.left:∀ {N L:List Ent},Lle N (N++L)
 | [],_=>trivial
 | e::_,_=>⟨e.cs,_,Pk.here,rfl,Lle.left⟩
section
variable (p q g h:Nat) (f sec:Int) (pN pV pY pP:Option Addr) (cN cV cY cP:Nat) (N:LP) (ep d:Nat) (V Y:LN) (Pr:LP) (sC sS gS gD gg gn gi:Nat)
structure CkR (w:World):Prop where
 s:Seg w gS 0 (stC p q g h f sec (.slice pN N.length cN))
 d:Seg w gD 0 (dlC ep d (.slice pV V.length cV) (.slice pY Y.length cY) (.slice pP Pr.length cP) sC sS)
 g:Seg w gg 0 (yC p q g h)
 n:Seg w gn 0 [.int .i64 (N.length:Int)]
 i:Seg w gi 0 [.func (.func 72) #[] #[pt gg]]
 rN:RdF ym (.slice pN N.length cN) N w
 rV:RdF zc (.slice pV V.length cV) V w
 rY:RdF zc (.slice pY Y.length cY) Y w
 rP:RdF pfC (.slice pP Pr.length cP) Pr w
theorem CkR.mod {w w' : World} (k:CkR p q g h f sec pN pV pY pP cN cV cY cP N ep d V Y Pr sC sS gS gD gg gn gi w) (hm:Mod [] w w'):CkR p q g h f sec pN pV pY pP cN cV cY cP N ep d V Y Pr sC sS gS gD gg gn gi w':=⟨k.s.mod hm Sm,k.d.mod hm Sm,k.g.mod hm Sm,k.n.mod hm Sm,k.i.mod hm Sm,k.rN.mod hm,k.rV.mod hm,k.rY.mod hm,k.rP.mod hm⟩
theorem adG (a:Nat) (ha:a<ze) (hp:p<ze) (hq:q<ze):Fn Tryz.prog 74 ([zi a]++[pt gg]) (fun w=>Seg w gg 0 (yC p q g h)) (Is (.bool (!gIn p q a))):=by
 have hI:=rr p q g h a ha hp hq;generalize gIn p q a=r at *;refine Fn.enter Tryz.func74 rfl rfl rfl ?_;intro w hw
 repeat (first|refine Tj ?_|intro _|refine WO.acall (hc:=hI) (k:=?_)|refine Tc ?_|exact Tz)
 done
theorem aej (xs:LN) (b o c:Nat) (hx:∀ a∈xs,a<ze) (hn:xs.length≤1000) (hp:p<ze) (hq:q<ze):Fn Tryz.prog 72 ([.slice (some ⟨b,o,none⟩) xs.length c]++[pt gg]) (fun w=>Seg w b o (xs.flatMap zc)∧Seg w gg 0 (yC p q g h)) (Is (.bool (xs.all (gIn p q)))):=by
 have hC:=tt (f:=74) [pt gg] (fun a=>!gIn p q a) xs b o c (fun w=>Seg w gg 0 (yC p q g h)) zU.seg Om (fun x h1=>adG p q g h gg x (hx x h1) hp hq);have e:xs.all (gIn p q) = !(xs.any fun a=>!gIn p q a):=by rw[List.any_eq_not_all_not];simp
 rw[e];generalize (xs.any fun a=>!gIn p q a)=r at *;refine Fn.enter Tryz.func72 rfl rfl rfl ?_;intro w hw;obtain⟨hw1,hw2⟩:=hw
 repeat (first|refine WO.does (zH rfl rfl) ?_|refine Tj ?_|intro _|refine WO.acallR (hc:=hC) (hR:=fun w' hm=>⟨hw1.mod hm.mod Sm,hw2.mod hm.mod Sm⟩) (k:=?_)|refine Tc ?_|exact Tz)
 done
theorem afz (hp:p<ze) (hq:q<ze) (hg:g<ze) (hh:h<ze) (hN:zY N) (hNl:N.length≤1099511627776)
  (hf1 : -9223372036854775808≤f) (hf2:f≤9223372036854775807) (hs1 : -9223372036854775808≤sec) (hs2:sec≤9223372036854775807) :
  Fn Tryz.prog 78 [pt gS] (CkR p q g h f sec pN pV pY pP cN cV cY cP N ep d V Y Pr sC sS gS gD gg gn gi) (aM (if yX p q g h f sec N then none else some 1)):=by
 have hS:=yn p q g h f sec pN cN N hp hq hg hh hN hNl hf1 hf2 hs1 hs2;generalize yX p q g h f sec N=r at *;refine Fn.enter Tryz.func78 rfl rfl rfl ?_;intro w hw;have hsS:=hw.s
 repeat (first|refine WO.does (zm (vs:=stC p q g h f sec (.slice pN N.length cN)) (hs:=hsS)) ?_|refine Tj ?_|intro _|refine WO.acallR (hc:=hS) (hR:=fun w' hm=>(hw.rN.mod hm.mod)) (k:=?_)|refine Tc ?_|exact Tz)
 refine WO.calls (fs:=[]) (cs:=[]) (vp 1 r) rfl rfl rfl (fun _ _=>trivial) (fun v N hv=>?_)
 repeat (first|refine Tk ?_|intro _|exact Tz)
 exact WX.ret1 rfl Rv.t N Lle.left hv
def shB (p q:Nat) (N:LP) (d:Nat) (V Y:LN) (Pr:LP):Bool:=rS d N && decide (V.length=N.length) && decide (Y.length=N.length) && decide (Pr.length=N.length) && V.all (gIn p q) && Y.all (gIn p q)
theorem afq (hp:p<ze) (hq:q<ze) (hd:d<256) (hNl:N.length≤100) (hN1:1≤N.length) (hVl:V.length≤1000) (hYl:Y.length≤1000) (hPl:Pr.length≤1000) (hV:∀ a∈V,a<ze) (hY:∀ a∈Y,a<ze) :
  Fn Tryz.prog 80 [pt gS,pt gD,pt gn,pt gi] (CkR p q g h f sec pN pV pY pP cN cV cY cP N ep d V Y Pr sC sS gS gD gg gn gi) (aM (if shB p q N d V Y Pr then none else some 4)):=by
 have hNo:=aaZ p q g h f sec pN cN N d hd Om;refine Fn.enter Tryz.func80 rfl rfl rfl ?_;intro w hw;have hsS:=hw.s;have hsD:=hw.d;have hsn:=hw.n;have hsi:=hw.i;unfold shB;cases e1:rS d N with
 | false =>
  rw[e1] at hNo
  repeat (first|refine WO.does (zm (vs:=stC p q g h f sec (.slice pN N.length cN)) (hs:=hsS)) ?_|refine WO.does (zn (hs:=hsD)) ?_|refine WO.does (zn (hs:=hsn)) ?_|refine WO.does (zn (hs:=hsi)) ?_|refine WO.does (zM rfl rfl Om) ?_|refine WO.does (zS rfl rfl Om) ?_|refine Tj ?_|intro _|refine WO.acall (hc:=hNo) (k:=?_)|refine Tc ?_|exact Tz)
  refine WO.calls (fs:=[]) (cs:=[]) (vp 4 false) rfl rfl rfl (fun _ _=>trivial) (fun v N' hv=>?_)
  repeat (first|refine Tk ?_|intro _|exact Tz)
  exact WX.ret1 rfl Rv.t N' Lle.left hv
 | true =>
 rw[e1] at hNo
 by_cases e2:V.length=N.length
 case neg =>
  rw[decide_eq_false e2]
  repeat (first|refine WO.does (zm (vs:=stC p q g h f sec (.slice pN N.length cN)) (hs:=hsS)) ?_|refine WO.does (zn (hs:=hsD)) ?_|refine WO.does (zn (hs:=hsn)) ?_|refine WO.does (zn (hs:=hsi)) ?_|refine WO.does (zM rfl rfl Om) ?_|refine WO.does (zS rfl rfl Om) ?_|refine Tj ?_|intro _|refine WO.acall (hc:=hNo) (k:=?_)|refine Tc ?_|exact Tz)
  simp only[Bool.and_false,Bool.false_and];refine WO.calls (fs:=[]) (cs:=[]) (vp 4 false) rfl rfl rfl (fun _ _=>trivial) (fun v N' hv=>?_)
  repeat (first|refine Tk ?_|intro _|exact Tz)
  exact WX.ret1 rfl Rv.t N' Lle.left hv
 by_cases e3:Y.length=N.length
 case neg =>
  rw[decide_eq_false e3]
  repeat (first|refine WO.does (zm (vs:=stC p q g h f sec (.slice pN N.length cN)) (hs:=hsS)) ?_|refine WO.does (zn (hs:=hsD)) ?_|refine WO.does (zn (hs:=hsn)) ?_|refine WO.does (zn (hs:=hsi)) ?_|refine WO.does (zM rfl rfl Om) ?_|refine WO.does (zS rfl rfl Om) ?_|refine Tj ?_|intro _|refine WO.acall (hc:=hNo) (k:=?_)|refine Tc ?_|exact Tz)
  simp only[Bool.and_false,Bool.false_and];refine WO.calls (fs:=[]) (cs:=[]) (vp 4 false) rfl rfl rfl (fun _ _=>trivial) (fun v N' hv=>?_)
  repeat (first|refine Tk ?_|intro _|exact Tz)
  exact WX.ret1 rfl Rv.t N' Lle.left hv
 by_cases e4:Pr.length=N.length
 case neg =>
  rw[decide_eq_false e4]
  repeat (first|refine WO.does (zm (vs:=stC p q g h f sec (.slice pN N.length cN)) (hs:=hsS)) ?_|refine WO.does (zn (hs:=hsD)) ?_|refine WO.does (zn (hs:=hsn)) ?_|refine WO.does (zn (hs:=hsi)) ?_|refine WO.does (zM rfl rfl Om) ?_|refine WO.does (zS rfl rfl Om) ?_|refine Tj ?_|intro _|refine WO.acall (hc:=hNo) (k:=?_)|refine Tc ?_|exact Tz)
  simp only[Bool.and_false,Bool.false_and];refine WO.calls (fs:=[]) (cs:=[]) (vp 4 false) rfl rfl rfl (fun _ _=>trivial) (fun v N' hv=>?_)
  repeat (first|refine Tk ?_|intro _|exact Tz)
  exact WX.ret1 rfl Rv.t N' Lle.left hv
 obtain⟨x0,hx0⟩ : ∃ x,V[0]?=some x:=⟨_,List.getElem?_eq_getElem Om⟩;obtain⟨y0,hy0⟩ : ∃ x,Y[0]?=some x:=⟨_,List.getElem?_eq_getElem Om⟩;obtain⟨bV,oV,eV,_,hVs⟩:=hw.rV.get hx0;obtain⟨bY,oY,eY,_,hYs⟩:=hw.rY.get hy0;subst eV eY;have hC1:=aej p q g h gg V bV oV cV hV hVl hp hq;have hC2:=aej p q g h gg Y bY oY cY hY hYl hp hq;rw[decide_eq_true e2,decide_eq_true e3,decide_eq_true e4];cases e5:V.all (gIn p q) with
 | false =>
  rw[e5] at hC1
  repeat (first|refine WO.does (zm (vs:=stC p q g h f sec (.slice pN N.length cN)) (hs:=hsS)) ?_|refine WO.does (zn (hs:=hsD)) ?_|refine WO.does (zn (hs:=hsn)) ?_|refine WO.does (zn (hs:=hsi)) ?_|refine WO.does (zM rfl rfl Om) ?_|refine WO.does (zS rfl rfl Om) ?_|refine Tj ?_|intro _|refine WO.acall (hc:=hNo) (k:=?_)|refine WO.acallV (hc:=hC1) (hR:=fun w' hm=>⟨hVs.mod hm.mod Sm,hw.g.mod hm.mod Sm⟩) (k:=?_)|refine Tc ?_|exact Tz)
  simp only[Bool.and_false,Bool.false_and];refine WO.calls (fs:=[]) (cs:=[]) (vp 4 false) rfl rfl rfl (fun _ _=>trivial) (fun v N' hv=>?_)
  repeat (first|refine Tk ?_|intro _|exact Tz)
  exact WX.ret1 rfl Rv.t N' Lle.left hv
 | true =>
 rw[e5] at hC1;generalize Y.all (gIn p q)=r at *
 repeat (first|refine WO.does (zm (vs:=stC p q g h f sec (.slice pN N.length cN)) (hs:=hsS)) ?_|refine WO.does (zn (hs:=hsD)) ?_|refine WO.does (zn (hs:=hsn)) ?_|refine WO.does (zn (hs:=hsi)) ?_|refine WO.does (zM rfl rfl Om) ?_|refine WO.does (zS rfl rfl Om) ?_|refine Tj ?_|intro _|refine WO.acall (hc:=hNo) (k:=?_)|refine WO.acallV (hc:=hC1) (hR:=fun w' hm=>⟨hVs.mod hm.mod Sm,hw.g.mod hm.mod Sm⟩) (k:=?_)|refine WO.acallV (hc:=hC2) (hR:=fun w' hm=>⟨hYs.mod hm.mod Sm,hw.g.mod hm.mod Sm⟩) (k:=?_)|refine Tc ?_|exact Tz)
 simp only[Bool.and_true,Bool.true_and];refine WO.calls (fs:=[]) (cs:=[]) (vp 4 r) rfl rfl rfl (fun _ _=>trivial) (fun v N' hv=>?_)
 repeat (first|refine Tk ?_|intro _|exact Tz)
 exact WX.ret1 rfl Rv.t N' Lle.left hv
end
section
variable (p q g h:Nat) (f sec:Int) (pN pV pY pP:Option Addr) (cN cV cY cP:Nat) (N:LP) (ep d:Nat) (V Y:LN) (Pr:LP) (sC sS gS gD gg gn gi:Nat)
theorem aft (n c:Nat) (hNn:N.length=n) (hfs:f+sec=(c:Int)) (hVn:V.length=n) (hn1:1≤n) (hn7:n≤7) (hc1:1≤c) (hcn:c≤n) (hnq:n<q) (hq:q<ze) (hp:p<ze) (h1p:1<p) (hV:abI p V) :
  Fn Tryz.prog 82 [pt gg,pt gD,pt gS] (CkR p q g h f sec pN pV pY pP cN cV cY cP N ep d V Y Pr sC sS gS gD gg gn gi) (aM (if duB p q n c V then none else some 12)):=by
 refine Fn.enter Tryz.func82 rfl rfl rfl ?_;intro w hw;obtain⟨x0,hx0⟩ : ∃ x,V[0]?=some x:=⟨_,List.getElem?_eq_getElem Om⟩;obtain⟨bV,oV,eV,_,hVs⟩:=hw.rV.get hx0;subst eV;have hlV:bV<w.heap.size:=RdF.lt (k:=3) (fun _=>rfl) hw.rV (by rintro rfl;simp at hx0);have hD:=av p q g h V n cV c bV oV hVn hn1 hn7 hc1 hcn hnq hq hp h1p hV;have hsS:=hw.s;have hsD:=hw.d;have hsg:=hw.g;rw[hVn] at hsD;have hadd:IntKind.i64.wrap (f+sec)=(c:Int):=by rw[hfs];exact i64_in Om Om
 generalize duB p q n c V=b at *
 repeat (first|refine WO.does (zm (vs:=yC p q g h) (hs:=hsg)) ?_|refine WO.does (zn (hs:=hsD)) ?_|refine WO.does (zn (hs:=hsS)) ?_|refine WO.does (zj rfl rfl hadd) ?_|refine Tj ?_|intro _|refine Tc ?_|exact Tz)
 refine WO.calls (fs:=[]) (cs:=[]) hD rfl rfl rfl (fun w1 hm=>⟨hVs.mod hm.mod Sm,Nat.lt_of_lt_of_le hlV hm.mod.size⟩) (fun v N1 hv=>?_);obtain⟨e,rfl,he,rfl⟩:=hv;cases b with
 | true =>
  obtain rfl:=he rfl
  repeat (first|refine WO.does (zM rfl rfl rfl) ?_|refine Tj ?_|intro _|refine Tc ?_|exact Tz)
  refine WO.calls (fs:=[]) (cs:=[]) (vp 12 true) rfl rfl rfl (fun _ _=>trivial) (fun v N' hv=>?_)
  repeat (first|refine Tk ?_|intro _|exact Tz)
  exact WX.ret1 rfl Rv.t N' Lle.left hv
 | false =>
  repeat (first|refine Tk ?_|intro _|exact Tz)
  refine WO.calls (fs:=[]) (cs:=[]) (vp 12 false) rfl rfl rfl (fun _ _=>trivial) (fun v N' hv=>?_)
  repeat (first|refine Tk ?_|intro _|exact Tz)
  exact WX.ret1 rfl Rv.t N' Lle.left hv
theorem afd (k:Nat × Nat) (hk:N[d - 1]?=some k) (hd1:1≤d) (hd:d<256) (hV0:V≠[]) (hY0:Y≠[]) (hP0:Pr≠[]) (hVl:V.length≤1000) (hYl:Y.length≤1000) (hPl:Pr.length≤1000) (hk1:k.1<ze) (hk2:k.2<ze)
  (hp:p<ze) (hq:q<ze) (hg:g<ze) (hC:sC<ze) (hS:sS<ze) (hgm:yx p g=true) (hHl:(vi ep d V Y Pr).length=32) (hHb:∀ b∈vi ep d V Y Pr,b<256) :
  Fn Tryz.prog 86 [pt gg,pt gS,pt gD] (CkR p q g h f sec pN pV pY pP cN cV cY cP N ep d V Y Pr sC sS gS gD gg gn gi) (aM (if rH p q g k.1 sC sS (vi ep d V Y Pr) then none else some 10)):=by
 have hH:=kO ep d sC sS pV pY pP cV cY cP V Y Pr hd hVl hYl hPl;have hSg:=qO p q g h k.1 sC sS (vi ep d V Y Pr) hp hq hg hk1 hC hS hHb hHl hgm;generalize vi ep d V Y Pr=H at *;generalize rH p q g k.1 sC sS H=b at *;have hbH:(byC H).length=32:=by rw[zd,hHl]
 refine Fn.enter Tryz.func86 rfl rfl rfl ?_;intro w hw;obtain⟨bN,oN,eN,_,hNs⟩:=hw.rN.get hk;subst eN;have hlt:d - 1<N.length:=by
  rcases Nat.lt_or_ge (d - 1) N.length with h1|h1
  ·exact h1
  ·rw[List.getElem?_eq_none h1] at hk;cases hk
 have hsS:=hw.s;have hsD:=hw.d;have hsg:=hw.g;have hsub:IntKind.u8.wrap ((d:Int) - 1)=((d - 1:Nat):Int):=by simp[IntKind.wrap,IntKind.signed,IntKind.bits];omega
 have hcK:=zI vO hk;have hcx:cut (N.flatMap ym) (oN+(d - 1)*8 - oN) 4=zc k.1:=by
  rw[Nat.add_sub_cancel_left];have:cut (cut (N.flatMap ym) ((d - 1)*8) 8) 0 4=cut (N.flatMap ym) ((d - 1)*8) 4:=by unfold cut;rw[List.drop_zero,List.take_take];rfl
  rw[← this,hcK];rfl
 obtain⟨key,k2⟩:=k;dsimp only at *
 repeat (first|refine Tk ?_|intro _|exact Tz)
 refine WC.adraw 16 (k:=?_);refine DQ.does (fun s _=>zm (vs:=yC p q g h) (hs:=hsg)) Dp.const ?_;refine Dx ?_;refine DQ.does (fun s _=>zn (hs:=hsS)) Dp.const ?_;refine Dx ?_;refine DQ.does (fun s _=>zn (hs:=hsD)) Dp.const ?_;refine DQ.does (fun s _=>zE rfl rfl hsub) Dp.const ?_;refine DQ.does (fun s _=>zb (o':=oN+(d - 1)*8) rfl rfl hlt rfl) Dp.const ?_;refine Dx ?_;refine DQ.does (fun s _=>zm (vs:=zc key) (hs:=hNs) (hle:=Nat.le_add_right _ _) (hc:=hcx)) Dp.const ?_;refine DQ.does (fun s _=>zm (vs:=dlC ep d (.slice pV V.length cV) (.slice pY Y.length cY) (.slice pP Pr.length cP) sC sS) (hs:=hsD)) Dp.const ?_;refine DQ.acallM (hc:=hH) (hR:=fun w1 hm=>⟨hw.rV.mod hm.mod,hw.rY.mod hm.mod,hw.rP.mod hm.mod⟩) (k:=?_);refine Dx ?_;refine DQ.does (fun s _=>zm (vs:=uL sC sS) (hs:=hsD)) Dp.const ?_;refine DQ.acallM (hc:=hSg) (hR:=fun _ _=>trivial) (k:=?_);cases b with
 | true =>
  refine DQ.acallM (hc:=nC 10) (hR:=fun _ _=>trivial) (k:=?_);refine Dx ?_;refine DQ.anil (k:=?_);intro sx _
  repeat (first|refine Tk ?_|intro _|exact Tz)
  exact WX.ret1 rfl Rv.t [] Lle.nil ⟨rfl,rfl⟩
 | false =>
  refine DQ.callsE (fs:=fun _=>[]) (cs:=fun _=>[]) (R:=fun _=>Tr) (vf:=fun _ x=>.iface 182 (pt (x 0))) (Nf:=fun _ x=>[⟨x 0,184,[.int .i64 10]⟩]) (S:=fun _ _=>True) (fun _=>[]) (fun _=>.nil)
   (fun _=>⟨fun _=>0,trivial⟩) (fun _ _=>mb 10) (fun _=>rfl) (fun _=>rfl) (fun _=>rfl) (fun _ _ w hm=>trivial) Dp.const Dp.const Dp.const ?_
  try dsimp only[List.map_cons,List.map_nil,List.cons_append,List.nil_append]
  refine Dx ?_;refine DQ.anil (k:=?_);intro sx _
  repeat (first|refine Tk ?_|intro _|exact Tz)
  exact WX.ret1 rfl Rv.t _ (Lle.c Lle.nil) ⟨_,rfl,rfl⟩
end
def afp:ByteArray:=⟨#[115,104,97,114,101]⟩
def pfB (p q g:Nat) (N:LP) (V Y:LN) (Pr:LP) (i:Nat):Bool:=ckB p q (zN afp) g (V[i]?.getD 0) (N[i]?.getD (0,0)).2 (Y[i]?.getD 0) (Pr[i]?.getD (0,0)).1 (Pr[i]?.getD (0,0)).2
def aa8 (p q g:Nat) (N:LP) (V Y:LN) (Pr:LP):Bool:=(List.range Pr.length).all (pfB p q g N V Y Pr)
theorem fg {P:Nat→Bool} {n i:Nat} (hi:i<n) (h:P i=false):(List.range n).all P=false:=by
 rw[List.all_eq_false];exact⟨i,List.mem_range.2 hi,by simp[h]⟩
theorem aQ {α:Type} {f:α→List Value} {m k o:Nat} {xs:List α} {i:Nat} {x:α} (hk:∀ x,(f x).length=k) (hx:xs[i]?=some x) (hm:o+m≤k):cut (xs.flatMap f) (i*k+o) m=cut (f x) o m:=by
 rw[← zI hk hx];unfold cut;rw[List.drop_take,List.take_take,List.drop_drop,Nat.min_eq_left Om]
section
variable (p q g h:Nat) (f sec:Int) (pN pV pY pP:Option Addr) (cN cV cY cP:Nat) (N:LP) (ep d:Nat) (V Y:LN) (Pr:LP) (sC sS gS gD gg gn gi:Nat)
theorem aff (hVn:V.length=Pr.length) (hYn:Y.length=Pr.length) (hNn:N.length=Pr.length) (hP7:Pr.length≤7) (hN:zY N) (hV:∀ a∈V,a<ze) (hY:∀ a∈Y,a<ze) (hPr:zY Pr) (hp:p<ze) (hq:q<ze) (hg:g<ze) :
  Fn Tryz.prog 84 [pt gD,pt gg,pt gS] (CkR p q g h f sec pN pV pY pP cN cV cY cP N ep d V Y Pr sC sS gS gD gg gn gi) (aM (if aa8 p q g N V Y Pr then none else some 11)):=by
 refine Fn.enter Tryz.func84 rfl rfl rfl ?_;intro w hw;have hsS:=hw.s;have hsD:=hw.d;have hsg:=hw.g
 repeat (first|refine WO.does (zn (hs:=hsD)) ?_|refine Tj ?_|intro _|refine Tc ?_|exact Tz)
 refine WC.loopI (σ:=Nat) (fun i=>i≤Pr.length∧∀ j,j<i→pfB p q g N V Y Pr j=true) (fun i=>[(0,pt gD),(1,pt gg),(2,pt gS),(7,.slice pP Pr.length cP),(8,.int .i64 (Pr.length:Int)),(9,.int .i64 (i:Int))]) (fun _=>[]) (fun i=>Pr.length - i) 0 (fun i hi=>?_) ⟨Nat.zero_le _,fun j hj=>absurd hj (Nat.not_lt_zero _)⟩
 try dsimp only at hi ⊢
 obtain⟨hi,h0⟩:=hi
 by_cases hlt:i<Pr.length
 ·obtain⟨x,hx⟩ : ∃ y,V[i]?=some y:=⟨_,List.getElem?_eq_getElem Om⟩;obtain⟨y,hy⟩ : ∃ z,Y[i]?=some z:=⟨_,List.getElem?_eq_getElem Om⟩;obtain⟨k,hk⟩ : ∃ z,N[i]?=some z:=⟨_,List.getElem?_eq_getElem Om⟩;obtain⟨pr,hpr⟩ : ∃ z,Pr[i]?=some z:=⟨_,List.getElem?_eq_getElem Om⟩;obtain⟨bV,oV,eV,_,hVs⟩:=hw.rV.get hx;obtain⟨bY,oY,eY,_,hYs⟩:=hw.rY.get hy;obtain⟨bN,oN,eN,_,hNs⟩:=hw.rN.get hk;obtain⟨bP,oP,eP,_,hPs⟩:=hw.rP.get hpr;subst eV eY eN eP;have hcV:cut (V.flatMap zc) (oV+i*4 - oV) 4=zc x:=by rw[Nat.add_sub_cancel_left];exact zI zR hx
  have hcY:cut (Y.flatMap zc) (oY+i*4 - oY) 4=zc y:=by rw[Nat.add_sub_cancel_left];exact zI zR hy
  have hcP:cut (Pr.flatMap pfC) (oP+i*8 - oP) 8=pfC pr:=by rw[Nat.add_sub_cancel_left];exact zI pm hpr
  have hcN:cut (N.flatMap ym) (oN+i*8+4 - oN) 4=zc k.2:=by
   rw[Nat.add_assoc,Nat.add_sub_cancel_left,aQ vO hk Dt];rfl
  have hadd2:IntKind.i64.wrap ((i:Int)+1)=((i+1:Nat):Int):=zl Om Om Om;have hC:=ab6 p q g h afp g x k.2 y pr.1 pr.2 hp hq hg (hV _ (List.mem_of_getElem? hx)) (hN _ (List.mem_of_getElem? hk)).2 (hY _ (List.mem_of_getElem? hy)) (hPr _ (List.mem_of_getElem? hpr)).1 (hPr _ (List.mem_of_getElem? hpr)).2 Dt;have hb:ckB p q (zN afp) g x k.2 y pr.1 pr.2=pfB p q g N V Y Pr i:=by unfold pfB;rw[hx,hy,hk,hpr];rfl
  rw[hb] at hC;cases hr:pfB p q g N V Y Pr i with
  | true =>
   rw[hr] at hC
   repeat (first|refine Tk ?_|intro _|exact Tz)
   refine WC.dT rfl Om ?_
   repeat (first|refine WO.does (zb (o':=oP+i*8) rfl rfl hlt rfl) ?_|refine WO.does (zm (vs:=pfC pr) (hs:=hPs) (hle:=Nat.le_add_right _ _) (hc:=hcP)) ?_|refine Tj ?_|intro _|refine Tc ?_|exact Tz)
   refine WC.adraw 22 (k:=?_);refine DQ.does (fun s _=>zm (vs:=yC p q g h) (hs:=hsg)) Dp.const ?_;refine Dx ?_;refine DQ.does (fun s _=>zm (vs:=zc g) (hs:=hsg)) Dp.const ?_;refine Dx ?_;refine DQ.does (fun s _=>zn (hs:=hsD)) Dp.const ?_;refine Dx ?_;refine DQ.does (fun s _=>zb (o':=oV+i*4) rfl rfl Om rfl) Dp.const ?_;refine DQ.does (fun s _=>zm (vs:=zc x) (hs:=hVs) (hle:=Nat.le_add_right _ _) (hc:=hcV)) Dp.const ?_;refine Dx ?_;refine DQ.does (fun s _=>zn (hs:=hsS)) Dp.const ?_;refine Dx ?_;refine DQ.does (fun s _=>zb (o':=oN+i*8) rfl rfl Om rfl) Dp.const ?_;refine Dx ?_;refine DQ.does (fun s _=>zm (vs:=zc k.2) (hs:=hNs) (hle:=by omega) (hc:=hcN)) Dp.const ?_;refine Dx ?_;refine DQ.does (fun s _=>zn (hs:=hsD)) Dp.const ?_;refine Dx ?_;refine DQ.does (fun s _=>zb (o':=oY+i*4) rfl rfl Om rfl) Dp.const ?_;refine DQ.does (fun s _=>zm (vs:=zc y) (hs:=hYs) (hle:=Nat.le_add_right _ _) (hc:=hcY)) Dp.const ?_;refine DQ.does (fun s _=>zx (vs:=pfC pr) (hc:=rfl)) Dp.const ?_;refine DQ.acallM (hc:=hC) (hR:=fun _ _=>trivial) (k:=?_);refine Dx ?_;refine DQ.anil (k:=?_);intro sx _
   repeat (first|refine WO.does (zj rfl rfl hadd2) ?_|refine Tj ?_|intro _|refine Tc ?_|exact Tz)
   exact WX.metI (i+1) (hs:=⟨⟨by omega,fun j hj=>by
    by_cases e:j=i
    ·subst e;exact hr
    ·exact h0 j Om⟩,by show Pr.length - (i+1)<Pr.length - i;omega⟩)
  | false =>
   rw[hr] at hC;rw[show aa8 p q g N V Y Pr=false from fg hlt hr]
   repeat (first|refine Tk ?_|intro _|exact Tz)
   refine WC.dT rfl Om ?_
   repeat (first|refine WO.does (zb (o':=oP+i*8) rfl rfl hlt rfl) ?_|refine WO.does (zm (vs:=pfC pr) (hs:=hPs) (hle:=Nat.le_add_right _ _) (hc:=hcP)) ?_|refine Tj ?_|intro _|refine Tc ?_|exact Tz)
   refine WC.adraw 22 (k:=?_);refine DQ.does (fun s _=>zm (vs:=yC p q g h) (hs:=hsg)) Dp.const ?_;refine Dx ?_;refine DQ.does (fun s _=>zm (vs:=zc g) (hs:=hsg)) Dp.const ?_;refine Dx ?_;refine DQ.does (fun s _=>zn (hs:=hsD)) Dp.const ?_;refine Dx ?_;refine DQ.does (fun s _=>zb (o':=oV+i*4) rfl rfl Om rfl) Dp.const ?_;refine DQ.does (fun s _=>zm (vs:=zc x) (hs:=hVs) (hle:=Nat.le_add_right _ _) (hc:=hcV)) Dp.const ?_;refine Dx ?_;refine DQ.does (fun s _=>zn (hs:=hsS)) Dp.const ?_;refine Dx ?_;refine DQ.does (fun s _=>zb (o':=oN+i*8) rfl rfl Om rfl) Dp.const ?_;refine Dx ?_;refine DQ.does (fun s _=>zm (vs:=zc k.2) (hs:=hNs) (hle:=by omega) (hc:=hcN)) Dp.const ?_;refine Dx ?_;refine DQ.does (fun s _=>zn (hs:=hsD)) Dp.const ?_;refine Dx ?_;refine DQ.does (fun s _=>zb (o':=oY+i*4) rfl rfl Om rfl) Dp.const ?_;refine DQ.does (fun s _=>zm (vs:=zc y) (hs:=hYs) (hle:=Nat.le_add_right _ _) (hc:=hcY)) Dp.const ?_;refine DQ.does (fun s _=>zx (vs:=pfC pr) (hc:=rfl)) Dp.const ?_;refine DQ.acallM (hc:=hC) (hR:=fun _ _=>trivial) (k:=?_);refine Dx ?_;refine DQ.anil (k:=?_);intro sx _
   repeat (first|refine WO.does (vt Kr rfl) ?_|refine Tj ?_|intro _|refine Tc ?_|exact Tz)
   exact WX.ret1 rfl Rv.t [⟨_,184,[.int .i64 11]⟩] (Lle.c Lle.nil) ⟨_,rfl,rfl⟩
 ·have hi2:i=Pr.length:=by omega
  have hall:aa8 p q g N V Y Pr=true:=by
   unfold aa8;rw[List.all_eq_true];exact fun j hj=>h0 j (by have:=List.mem_range.1 hj;omega)
  rw[hall]
  repeat (first|refine Tk ?_|intro _|exact Tz)
  refine WC.dF rfl Om ?_
  repeat (first|refine Tk ?_|intro _|exact Tz)
  exact WX.ret1 rfl Rv.t [] Lle.nil ⟨rfl,rfl⟩
end
end Sx
end
section
open Go Go.RowKit Go.BigFrame
namespace Sx
section
variable (p q g h:Nat) (f sec:Int) (N:LP) (ep d:Nat) (V Y:LN) (Pr:LP) (sC sS:Nat)
def ckE:Option Int:=if yX p q g h f sec N then (if shB p q N d V Y Pr then (if duB p q N.length (f+sec).toNat V then (if aa8 p q g N V Y Pr then (if rH p q g (N[d - 1]?.getD (0,0)).1 sC sS (vi ep d V Y Pr) then none else some 10) else some 11) else some 12) else some 4) else some 1
end
end Sx
end
section
open Go Go.RowKit Go.BigFrame
namespace Sx
attribute [local irreducible] DQ WC WI WO WX wd
def nG (P:Nat→Nat→Bool) (xs ys:LN):Bool:=(List.range xs.length).all fun i=>P (xs[i]?.getD 0) (ys[i]?.getD 0)
theorem ia {f:Nat} [Cal Tryz.prog f] (caps:LV) (Pb:Nat→Nat→Bool) (xs ys:LN) (px py:Option Addr) (cx cy:Nat) (R:World→Prop) (hst:zU R) (hn:xs.length≤1000)
  (hf:∀ x∈xs,∀ y∈ys,Fn Tryz.prog f ([zi x,zi y]++caps) R (Is (.bool (Pb x y)))) :
  Fn Tryz.prog 161 [.slice px xs.length cx,.slice py ys.length cy,.func (.func f) #[] caps.toArray] (fun w=>RdF zc (.slice px xs.length cx) xs w∧RdF zc (.slice py ys.length cy) ys w∧R w) (Is (.bool (decide (xs.length=ys.length) && nG Pb xs ys))):=by
 refine Fn.enter Tryz.func161 rfl rfl rfl ?_;intro w hw;obtain⟨hwx,hwy,hwR⟩:=hw
 by_cases he:xs.length=ys.length
 case neg =>
  rw[decide_eq_false he,Bool.false_and]
  repeat (first|refine WO.does (yJ rfl rfl Om) ?_|refine Tj ?_|intro _|refine Tc ?_|exact Tz)
  done
 rw[decide_eq_true he,Bool.true_and]
 repeat (first|refine Tk ?_|intro _|exact Tz)
 refine WC.dF rfl Om ?_
 repeat (first|refine Tk ?_|intro _|exact Tz)
 refine WC.loopI (σ:=Nat) (fun i=>i≤xs.length∧∀ j,j<i→Pb (xs[j]?.getD 0) (ys[j]?.getD 0)=true) (fun i=>[(1,.slice py ys.length cy),(2,.func (.func f) #[] caps.toArray),(15,.slice px xs.length cx),(16,.int .i64 (xs.length:Int)),(17,.int .i64 (i:Int))]) (fun _=>[]) (fun i=>xs.length - i) 0 (fun i hi=>?_) ⟨Nat.zero_le _,fun j hj=>absurd hj (Nat.not_lt_zero _)⟩
 try dsimp only at hi ⊢
 obtain⟨hi,h0⟩:=hi
 by_cases hlt:i<xs.length
 ·obtain⟨x,hx⟩ : ∃ y,xs[i]?=some y:=⟨_,List.getElem?_eq_getElem Om⟩;obtain⟨y,hy⟩ : ∃ z,ys[i]?=some z:=⟨_,List.getElem?_eq_getElem Om⟩;obtain⟨bx,ox,ex,_,hxs⟩:=hwx.get hx;obtain⟨bY,oy,ey,_,hys⟩:=hwy.get hy;subst ex ey;have hcx:cut (xs.flatMap zc) (ox+i*4 - ox) 4=zc x:=by rw[Nat.add_sub_cancel_left];exact zI zR hx
  have hcy:cut (ys.flatMap zc) (oy+i*4 - oy) 4=zc y:=by rw[Nat.add_sub_cancel_left];exact zI zR hy
  have hadd2:IntKind.i64.wrap ((i:Int)+1)=((i+1:Nat):Int):=zl Om Om Om;have hF:=hf x (List.mem_of_getElem? hx) y (List.mem_of_getElem? hy);have hb:Pb (xs[i]?.getD 0) (ys[i]?.getD 0)=Pb x y:=by rw[hx,hy];rfl
  cases hr:Pb x y with
  | true =>
   rw[hr] at hF
   repeat (first|refine Tk ?_|intro _|exact Tz)
   refine WC.dT rfl Om ?_
   repeat (first|refine WO.does (zj rfl rfl hadd2) ?_|refine Tj ?_|intro _|refine WO.does (zb (o':=ox+i*4) rfl rfl hlt rfl) ?_|refine WO.does (zm (vs:=zc x) (hs:=hxs) (hle:=Nat.le_add_right _ _) (hc:=hcx)) ?_|refine WO.does (zb (o':=oy+i*4) rfl rfl Om rfl) ?_|refine WO.does (zm (vs:=zc y) (hs:=hys) (hle:=Nat.le_add_right _ _) (hc:=hcy)) ?_|refine WO.acallV (hc:=hF) (hR:=fun w' hm=>hst _ _ hwR hm.mod.below) (k:=?_)|refine Tc ?_|exact Tz)
   exact WX.metI (i+1) (hs:=⟨⟨by omega,fun j hj=>by
    by_cases e:j=i
    ·subst e;rw[hb];exact hr
    ·exact h0 j Om⟩,by show xs.length - (i+1)<xs.length - i;omega⟩)
  | false =>
   rw[hr] at hF;rw[show nG Pb xs ys=false from fg hlt (by rw[hb];exact hr)]
   repeat (first|refine Tk ?_|intro _|exact Tz)
   refine WC.dT rfl Om ?_
   repeat (first|refine Tj ?_|intro _|refine WO.does (zb (o':=ox+i*4) rfl rfl hlt rfl) ?_|refine WO.does (zm (vs:=zc x) (hs:=hxs) (hle:=Nat.le_add_right _ _) (hc:=hcx)) ?_|refine WO.does (zb (o':=oy+i*4) rfl rfl Om rfl) ?_|refine WO.does (zm (vs:=zc y) (hs:=hys) (hle:=Nat.le_add_right _ _) (hc:=hcy)) ?_|refine WO.acallV (hc:=hF) (hR:=fun w' hm=>hst _ _ hwR hm.mod.below) (k:=?_)|refine Tc ?_|exact Tz)
   done
 ·have hi2:i=xs.length:=by omega
  rw[show nG Pb xs ys=true by
   unfold nG;rw[List.all_eq_true];exact fun j hj=>h0 j (by have:=List.mem_range.1 hj;omega)]
  repeat (first|refine Tk ?_|intro _|exact Tz)
  refine WC.dF rfl Om ?_
  repeat (first|refine Tk ?_|intro _|exact Tz)
  done
section
variable (p q g h:Nat) (f sec:Int) (pN pV pY pP:Option Addr) (cN cV cY cP:Nat) (N:LP) (ep d:Nat) (V Y:LN) (Pr:LP) (sC sS:Nat) (l:LN) (pz:Option Addr) (cz:Nat)
theorem cL (v x gS:Nat) (hv:v<ze) (hx:x<ze) (hg:g<ze) (hp:p<ze):Fn Tryz.prog 162 ([zi v,zi x]++[pt gS]) (fun w=>Seg w gS 0 (stC p q g h f sec (.slice pN N.length cN))) (Is (.bool (decide (v=exN p g x)))):=by
 have hE:=vF p q g h g x hg hx hp;simp only[rE] at hE;rw[show okV (yx p g) (g ^ x%p)=exN p g x from rfl] at hE;have hl:exN p g x<ze:=uA (n:=x) (a:=g) hp;generalize exN p g x=y at *;generalize okE (yx p g)=e at *;refine Fn.enter Tryz.func162 rfl rfl rfl ?_;intro w hw
 repeat (first|refine Tj ?_|intro _|refine WO.does (zm (vs:=yC p q g h) (hs:=hw)) ?_|refine WO.does (zm (vs:=zc g) (hs:=hw)) ?_|refine WO.acall (hc:=hE) (k:=?_)|refine WO.does (zw (a:=y) (b:=v) (r:=decide (v=y)) rfl rfl hl hv (decide_eq_decide.2 eq_comm)) ?_|refine Tc ?_|exact Tz)
 done
def abH (p q g h:Nat) (f sec:Int) (N:LP) (V l:LN):Bool:=yX p q g h f sec N && (decide ((l.length:Int)=f+sec) && uf q l) && (decide (V.length=N.length) && nG (fun v x=>decide (v=exN p g x)) V (shL q l N.length))
theorem kL {q n:Nat} {l:LN}:(shL q l n).length=n:=by simp[shL]
theorem abp {q n:Nat} {l:LN} (h:0<q):∀ a∈shL q l n,a<q:=fun a ha=>by
 unfold shL at ha;obtain⟨j,_,rfl⟩:=List.mem_map.1 ha;exact Nat.mod_lt _ h
theorem ac7 (hp:p<ze) (hq:q<ze) (hg:g<ze) (hh:h<ze) (hN:zY N) (hNl:N.length≤100)
  (hf1 : -9223372036854775808≤f) (hf2:f≤9223372036854775807) (hs1 : -9223372036854775808≤sec) (hs2:sec≤9223372036854775807)
  (hV:∀ a∈V,a<ze) (hVl:V.length≤100) (hl:∀ a∈l,a<ze) (hn:l.length≤100) :
  Fn Tryz.prog 89 [stV p q g h f sec (.slice pN N.length cN),dlV ep d (.slice pV V.length cV) (.slice pY Y.length cY) (.slice pP Pr.length cP) sC sS,.slice pz l.length cz]
   (fun w=>RdF ym (.slice pN N.length cN) N w∧RdF zc (.slice pV V.length cV) V w∧RdF zc (.slice pz l.length cz) l w) (Is (.bool (abH p q g h f sec N V l))):=by
 have hS:=yn p q g h f sec pN cN N hp hq hg hh hN Om hf1 hf2 hs1 hs2;unfold abH;cases e0:yX p q g h f sec N with
 | false =>
  rw[e0] at hS;refine Fn.enter Tryz.func89 rfl rfl rfl ?_;intro w hw;obtain⟨hwN,hwV,hwl⟩:=hw
  repeat (first|refine Tj ?_|intro _|refine WO.acallR (hc:=hS) (hR:=fun w1 hm=>(hwN.mod hm.mod)) (k:=?_)|refine Tc ?_|exact Tz)
  done
 | true =>
 rw[e0] at hS;obtain⟨hn1,hn7,hnq,hf0,hs1',hfs5,hgm,hhm⟩:=zX e0;have hP:=aaY p q g h f sec (.slice pN N.length cN) l pz cz hl Om hq ⟨hf0,by omega,hfs5⟩;cases e1:(decide ((l.length:Int)=f+sec) && uf q l) with
 | false =>
  rw[e1] at hP;refine Fn.enter Tryz.func89 rfl rfl rfl ?_;intro w hw;obtain⟨hwN,hwV,hwl⟩:=hw
  repeat (first|refine Tj ?_|intro _|refine WO.acallR (hc:=hS) (hR:=fun w1 hm=>(hwN.mod hm.mod)) (k:=?_)|refine WO.acallR (hc:=hP) (hR:=fun w1 hm=>(hwl.mod hm.mod)) (k:=?_)|refine Tc ?_|exact Tz)
  done
 | true =>
 rw[e1] at hP;have hall:uf q l=true:=by rw[Bool.and_eq_true] at e1;exact e1.2
 have hO:=aaN p q g h l pz cz N.length hl Om hq hall hn1 hn7 Om;have hE:=fun gS gL=>ia (f:=162) [pt gS] (fun v x=>decide (v=exN p g x)) V (shL q l N.length) pV (some ⟨gL,0,none⟩) cV N.length (fun w=>Seg w gS 0 (stC p q g h f sec (.slice pN N.length cN))) zU.seg Om (fun v hv x hx=>cL p q g h f sec pN cN N v x gS (hV v hv) (Nat.lt_trans (abp Om x hx) hq) hg hp);rw[kL] at hE;have hlen:(shL q l N.length).length=N.length:=kL;generalize shL q l N.length=S at *;generalize nG (fun v x=>decide (v=exN p g x)) V S=b at *;refine Fn.enter Tryz.func89 rfl rfl rfl ?_;intro w hw;obtain⟨hwN,hwV,hwl⟩:=hw
 repeat (first|refine Tj ?_|intro _|refine WO.acallR (hc:=hS) (hR:=fun w1 hm=>(hwN.mod hm.mod)) (k:=?_)|refine WO.acallR (hc:=hP) (hR:=fun w1 hm=>(hwl.mod hm.mod)) (k:=?_)|refine Tc ?_|exact Tz)
 refine WO.calls (fs:=[]) (cs:=[]) hO rfl rfl rfl (fun w1 hm=>hwl.mod hm.mod) (fun u N1 hu=>?_);obtain⟨s,rfl,rfl,_⟩:=hu;generalize s 0=gL
 try dsimp only[List.cons_append,List.nil_append]
 repeat (first|refine WO.does (zH rfl rfl) ?_|refine Tj ?_|intro _|refine WO.acallR (hc:=hE _ _) (hR:=fun w1 hm=>⟨hwV.mod hm.mod,RdF.ownD (Hs.sg hm) hlen,Hs.sg hm⟩) (k:=?_)|refine Tc ?_|exact Tz)
 done
end
end Sx
end
section
open Go Go.RowKit Go.BigFrame
namespace Sx
attribute [local irreducible] DQ WC WI WO WT WX wd
section
variable (p q g h:Nat) (f sec:Int) (pN pV pY pP:Option Addr) (cN cV cY cP:Nat) (N:LP) (ep d:Nat) (V Y:LN) (Pr:LP) (sC sS:Nat)
theorem i2 (r:Option Int) (hAsk:∀ gS gD gg gn gi,aa1 (CkR p q g h f sec pN pV pY pP cN cV cY cP N ep d V Y Pr sC sS gS gD gg gn gi)
   [(78,[pt gS]),(80,[pt gS,pt gD,pt gn,pt gi]),(82,[pt gg,pt gD,pt gS]),(84,[pt gD,pt gg,pt gS]),(86,[pt gg,pt gS,pt gD])] r) :
  Fn Tryz.prog 32 [stV p q g h f sec (.slice pN N.length cN),dlV ep d (.slice pV V.length cV) (.slice pY Y.length cY) (.slice pP Pr.length cP) sC sS]
   (fun w=>(RdF ym (.slice pN N.length cN) N w∧RdF zc (.slice pV V.length cV) V w∧RdF zc (.slice pY Y.length cY) Y w∧RdF pfC (.slice pP Pr.length cP) Pr w)∧si w) (Is (.int .i64 (r.getD 0))):=by
 refine Fn.enter Tryz.func32 rfl rfl rfl ?_;intro w hw;obtain⟨⟨hN,hV,hY,hP⟩,hH⟩:=hw
 repeat (first|refine Tk ?_|intro _|exact Tz)
 rename_i gS gD;refine WC.mainA [5,6,7,8] [(0,pt gS),(1,vI p q g h),(2,.pointer (some ⟨gS,18,none⟩)),(3,.slice pN N.length cN),(4,.int .i64 (N.length:Int))] Dt (fun A hA=>?_);refine WT.given [(2,pt gS),(3,pt gD),(4,.int .i64 0)] [⟨gS,36,stC p q g h f sec (.slice pN N.length cN)⟩] Kr (Tlv.a (Tlv.a (Tlv.a (Tlv.a (Tlv.a (Tlv.nil)))) (h:=by refine Qux.does ?_;exact zx (vs:=yC p q g h)))) (fun hc hT=>?_)
 suffices hS480:∀ q5 q6,A [8,7,6,5] [(5,pt q5),(6,pt q6),(2,pt gS),(3,pt gD),(4,.int .i64 0)] [⟨q5,26,yC p q g h⟩,⟨q6,3,[.int .i64 (N.length:Int)]⟩,⟨gD,51,dlC ep d (.slice pV V.length cV) (.slice pY Y.length cY) (.slice pP Pr.length cP) sC sS⟩,⟨gS,36,stC p q g h f sec (.slice pN N.length cN)⟩] by
  have hS224:∀ q5 q6,A [7,6,5] [(5,pt q5),(6,pt q6),(2,pt gS),(3,pt gD),(4,.int .i64 0)] [⟨q5,26,yC p q g h⟩,⟨q6,3,[.int .i64 0]⟩,⟨gD,51,dlC ep d (.slice pV V.length cV) (.slice pY Y.length cY) (.slice pP Pr.length cP) sC sS⟩,⟨gS,36,stC p q g h f sec (.slice pN N.length cN)⟩]:=by
   intro q5 q6;refine (hA _ _ _).2 (WT.step [8] Dt hc hT ⟨⟨_,rfl,?_⟩,trivial⟩)
   ·refine Tw ?_;exact WT.go [] hA (hS480 q5 q6)
  have hS96:∀ q5 q6,A [6,5] [(5,pt q5),(6,pt q6),(2,pt gS),(3,pt gD),(4,.int .i64 0)] [⟨q5,26,yC 0 0 0 0⟩,⟨q6,3,[.int .i64 0]⟩,⟨gD,51,dlC ep d (.slice pV V.length cV) (.slice pY Y.length cY) (.slice pP Pr.length cP) sC sS⟩,⟨gS,36,stC p q g h f sec (.slice pN N.length cN)⟩]:=by
   intro q5 q6;refine (hA _ _ _).2 (WT.step [7] Dt hc hT ⟨⟨_,rfl,?_⟩,trivial⟩)
   ·refine Tw ?_;exact WT.go [] hA (hS224 q5 q6)
  have hS32:∀ q5,A [5] [(5,pt q5),(2,pt gS),(3,pt gD),(4,.int .i64 0)] [⟨q5,26,yC 0 0 0 0⟩,⟨gD,51,dlC ep d (.slice pV V.length cV) (.slice pY Y.length cY) (.slice pP Pr.length cP) sC sS⟩,⟨gS,36,stC p q g h f sec (.slice pN N.length cN)⟩]:=by
   intro q5;refine (hA _ _ _).2 (WT.step [6] Dt hc hT ⟨⟨_,rfl,?_⟩,trivial⟩)
   ·(refine WO.autoM (k:=?_);intro q6);exact WT.go [(6,pt q6)] hA (hS96 q5 q6)
  have hS64:∀ q6,A [6] [(6,pt q6),(2,pt gS),(3,pt gD),(4,.int .i64 0)] [⟨q6,3,[.int .i64 0]⟩,⟨gD,51,dlC ep d (.slice pV V.length cV) (.slice pY Y.length cY) (.slice pP Pr.length cP) sC sS⟩,⟨gS,36,stC p q g h f sec (.slice pN N.length cN)⟩]:=by
   intro q6;refine (hA _ _ _).2 (WT.step [5] Dt hc hT ⟨⟨_,rfl,?_⟩,trivial⟩)
   ·(refine WO.autoM (k:=?_);intro q5);exact WT.go [(5,pt q5)] hA (hS96 q5 q6)
  have hS0:A [] [(2,pt gS),(3,pt gD),(4,.int .i64 0)] [⟨gD,51,dlC ep d (.slice pV V.length cV) (.slice pY Y.length cY) (.slice pP Pr.length cP) sC sS⟩,⟨gS,36,stC p q g h f sec (.slice pN N.length cN)⟩]:=by
   refine (hA _ _ _).2 (WT.step [5,6] Dt hc hT ⟨⟨_,rfl,?_⟩,⟨_,rfl,?_⟩,trivial⟩)
   ·(refine WO.autoM (k:=?_);intro q5);exact WT.go [(5,pt q5)] hA (hS32 q5)
   ·(refine WO.autoM (k:=?_);intro q6);exact WT.go [(6,pt q6)] hA (hS64 q6)
  exact WT.less ((hA _ _ _).1 hS0) Dt Kle.a (by repeat (first|exact Lle.nil|exact Lle.same|refine Lle.c ?_))
 intro q5 q6;refine (hA _ _ _).2 (WT.fin [5,6,7,8] 6 hc rfl Kr ?_);clear hc hT hA
 repeat (first|refine WO.does (zH rfl rfl) ?_|refine Tj ?_|intro _|refine Tc ?_|exact Tz)
 rename_i gi
 repeat (first|refine WO.does (zH rfl rfl) ?_|refine Tj ?_|intro _|refine Tc ?_|exact Tz)
 refine WO.makes (zh (cs:=[fV (78,[pt gS]),fV (80,[pt gS,pt gD,pt q6,pt gi]),fV (82,[pt q5,pt gD,pt gS]),fV (84,[pt gD,pt q5,pt gS]),fV (86,[pt q5,pt gS,pt gD])]) rfl Dt rfl) ?_;intro gR;refine WO.calls (fs:=[]) (cs:=[]) (acT (R:=CkR p q g h f sec pN pV pY pP cN cV cY cP N ep d V Y Pr sC sS gS gD q5 q6 gi) (fun w w' k hm=>CkR.mod (k:=k) (hm:=hm)) _ r gR 5 Sm (hAsk gS gD q5 q6 gi)) rfl rfl rfl (fun w1 hm=>⟨Hs.sg hm,⟨Hs.sg hm,Hs.sg hm,Hs.sg hm,Hs.sg hm,Hs.sg hm,hN.mod hm.mod,hV.mod hm.mod,hY.mod hm.mod,hP.mod hm.mod⟩⟩) (fun v N1 hv=>?_);cases r with
 | none =>
  obtain⟨rfl,rfl⟩:=hv
  try dsimp only[List.cons_append,List.nil_append]
  repeat (first|refine Tj ?_|intro _|refine WO.acall (hc:=acz) (k:=?_)|refine Tc ?_|exact Tz)
  done
 | some e =>
  obtain⟨gE,rfl,rfl⟩:=hv
  try dsimp only[List.cons_append,List.nil_append]
  repeat (first|refine Tj ?_|intro _|refine WO.acallR (hc:=abk gE e) (hR:=fun w1 hm=>⟨hH.mod hm.mod Sm,Hs.sg hm⟩) (k:=?_)|refine Tc ?_|exact Tz)
  done
end
end Sx
end
section
open Go Go.RowKit Go.BigFrame
namespace Sx
section
variable (p q g h:Nat) (f sec:Int) (pN pV pY pP:Option Addr) (cN cV cY cP:Nat) (N:LP) (ep d:Nat) (V Y:LN) (Pr:LP) (sC sS:Nat)
theorem eZ {p q g h:Nat} {f sec:Int} {N:LP} {c:Nat} (hs:yX p q g h f sec N=true) (hc:f+sec=(c:Int)):c≤N.length:=by
 unfold yX at hs;simp only[Bool.and_eq_true,decide_eq_true_eq] at hs;omega
theorem acV (hp:p<ze) (hq:q<ze) (hg:g<ze) (hh:h<ze) (hN:zY N) (hNl:N.length≤100)
  (hf1 : -9223372036854775808≤f) (hf2:f≤9223372036854775807) (hs1 : -9223372036854775808≤sec) (hs2:sec≤9223372036854775807)
  (hd:d<256) (hV:∀ a∈V,a<ze) (hY:∀ a∈Y,a<ze) (hPr:zY Pr) (hVl:V.length≤100) (hYl:Y.length≤100) (hPl:Pr.length≤100) (hsC:sC<ze) (hsS:sS<ze) (gS gD gg gn gi:Nat) :
  aa1 (CkR p q g h f sec pN pV pY pP cN cV cY cP N ep d V Y Pr sC sS gS gD gg gn gi)
   [(78,[pt gS]),(80,[pt gS,pt gD,pt gn,pt gi]),(82,[pt gg,pt gD,pt gS]),(84,[pt gD,pt gg,pt gS]),(86,[pt gg,pt gS,pt gD])] (ckE p q g h f sec N ep d V Y Pr sC sS):=by
 have h2:=afz p q g h f sec pN pV pY pP cN cV cY cP N ep d V Y Pr sC sS gS gD gg gn gi hp hq hg hh hN Om hf1 hf2 hs1 hs2;unfold ckE;cases e0:yX p q g h f sec N with
 | false =>
  rw[e0] at h2;rw[if_neg Dt] at h2 ⊢;exact .hit inferInstance h2
 | true =>
 rw[e0,if_pos rfl] at h2;rw[if_pos rfl];refine .go inferInstance h2 ?_;obtain⟨hn1,hn7,hnq,hf0,hs1',hfs5,hgm,hhm⟩:=zX e0;have h3:=afq p q g h f sec pN pV pY pP cN cV cY cP N ep d V Y Pr sC sS gS gD gg gn gi hp hq hd hNl hn1 Om Om Om hV hY;cases e1:shB p q N d V Y Pr with
 | false =>
  rw[e1] at h3;rw[if_neg Dt] at h3 ⊢;exact .hit inferInstance h3
 | true =>
 rw[e1,if_pos rfl] at h3;rw[if_pos rfl];refine .go inferInstance h3 ?_;unfold shB at e1;simp only[Bool.and_eq_true,decide_eq_true_eq] at e1;obtain⟨⟨⟨⟨⟨n1,n2⟩,n3⟩,n4⟩,n5⟩,n6⟩:=e1;obtain⟨hd1,hdn⟩:=tU n1;have hZ:abI p V:=⟨hV,fun z hz=>y6 (List.all_eq_true.1 n5 z hz)⟩;obtain⟨c,hc⟩ : ∃ c:Nat,f+sec=(c:Int):=⟨(f+sec).toNat,by omega⟩;have hcN:=eZ e0 hc;have h4:=aft p q g h f sec pN pV pY pP cN cV cY cP N ep d V Y Pr sC sS gS gD gg gn gi N.length c rfl hc n2 hn1 hn7 Om hcN Om hq hp (yW hgm).1 hZ;rw[show (f+sec).toNat=c by omega];cases e2:duB p q N.length c V with
 | false =>
  rw[e2] at h4;rw[if_neg Dt] at h4 ⊢;exact .hit inferInstance h4
 | true =>
 rw[e2,if_pos rfl] at h4;rw[if_pos rfl];refine .go inferInstance h4 ?_;have h5:=aff p q g h f sec pN pV pY pP cN cV cY cP N ep d V Y Pr sC sS gS gD gg gn gi Om Om Om Om hN hV hY hPr hp hq hg;cases e3:aa8 p q g N V Y Pr with
 | false =>
  rw[e3] at h5;rw[if_neg Dt] at h5 ⊢;exact .hit inferInstance h5
 | true =>
 rw[e3,if_pos rfl] at h5;rw[if_pos rfl];refine .go inferInstance h5 ?_;obtain⟨k,hk⟩ : ∃ z,N[d - 1]?=some z:=⟨_,List.getElem?_eq_getElem Om⟩;have hkm:=hN _ (List.mem_of_getElem? hk);have h6:=afd p q g h f sec pN pV pY pP cN cV cY cP N ep d V Y Pr sC sS gS gD gg gn gi k hk hd1 hd (by rintro rfl;simp at n2;omega) (by rintro rfl;simp at n3;omega) (by rintro rfl;simp at n4;omega) Om Om Om hkm.1 hkm.2 hp hq hg hsC hsS hgm (zO _ _) (vP _ _);rw[hk,show (some k).getD (0,0)=k from rfl];cases e4:rH p q g k.1 sC sS (vi ep d V Y Pr) with
 | false =>
  rw[e4] at h6;rw[if_neg Dt] at h6 ⊢;exact .hit inferInstance h6
 | true =>
 rw[e4,if_pos rfl] at h6;rw[if_pos rfl];exact .go inferInstance h6 .nil
end
section
variable (p q g h:Nat) (f sec:Int) (pN pV pY pP:Option Addr) (cN cV cY cP:Nat) (N:LP) (ep d:Nat) (V Y:LN) (Pr:LP) (sC sS:Nat)
theorem sY (hp:p<ze) (hq:q<ze) (hg:g<ze) (hh:h<ze) (hN:zY N) (hNl:N.length≤100)
  (hf1 : -9223372036854775808≤f) (hf2:f≤9223372036854775807) (hs1 : -9223372036854775808≤sec) (hs2:sec≤9223372036854775807)
  (hd:d<256) (hV:∀ a∈V,a<ze) (hY:∀ a∈Y,a<ze) (hPr:zY Pr) (hVl:V.length≤100) (hYl:Y.length≤100) (hPl:Pr.length≤100) (hsC:sC<ze) (hsS:sS<ze) :
  Fn Tryz.prog 32 [stV p q g h f sec (.slice pN N.length cN),dlV ep d (.slice pV V.length cV) (.slice pY Y.length cY) (.slice pP Pr.length cP) sC sS]
   (fun w=>(RdF ym (.slice pN N.length cN) N w∧RdF zc (.slice pV V.length cV) V w∧RdF zc (.slice pY Y.length cY) Y w∧RdF pfC (.slice pP Pr.length cP) Pr w)∧si w) (Is (.int .i64 ((ckE p q g h f sec N ep d V Y Pr sC sS).getD 0))) :=
 i2 p q g h f sec pN pV pY pP cN cV cY cP N ep d V Y Pr sC sS _ (fun gS gD gg gn gi=>acV p q g h f sec pN pV pY pP cN cV cY cP N ep d V Y Pr sC sS hp hq hg hh hN hNl hf1 hf2 hs1 hs2 hd hV hY hPr hVl hYl hPl hsC hsS gS gD gg gn gi)
end
end Sx
end
end Go.Proofs.YtiaibpcaloigkaaGreatDoor
