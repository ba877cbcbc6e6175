/- Part 34 of the proof. -/
import Derived.Test.YtiaibpcaloigkaaGreatDoorG33
import Derived.Test.YtiaibpcaloigkaaGreatDoorG32
set_option linter.unusedSimpArgs false
set_option linter.unusedVariables false
set_option maxHeartbeats 8000000
namespace Go.Proofs.YtiaibpcaloigkaaGreatDoor
section
open Go Go.RowKit Go.BigFrame
namespace Sx
abbrev aeK:Value:=.iface 341 (.agg #[.pointer (some ⟨3,174,none⟩)])
abbrev uY:World→Prop:=fun w=>Seg w 0 0 [aeK]
theorem ae2 (ge gt:Nat):FnL Tryz.prog 148 [.iface 182 (pt ge),.iface 243 (pt gt)] [⟨gt,182,[.pointer none]⟩] uY (fun v N=>v=.bool true∧N=[⟨gt,182,[pt ge]⟩]):=by
 intro w hok hnd hw;have hg:=(hok ⟨gt,182,[.pointer none]⟩ Sm).row (show (182:Nat)≠0 by decide);have hlt:=(hok ⟨gt,182,[.pointer none]⟩ Sm).lt;have hc:=(hok ⟨gt,182,[.pointer none]⟩ Sm).cell 0;dsimp only at hg hlt hc;refine (afM ⟨ge,0,none⟩ ⟨gt,0,none⟩ (.pointer none) w (hw 0 _ rfl) (by rw[hc];rfl) (by unfold World.frozen?;rw[hg];rfl)).mono ?_;rintro e w' ⟨rfl,rfl⟩;refine⟨.bool true,_,rfl,?_,rfl,rfl⟩;have h0:Me w [gt] [⟨gt,182,[.pointer none]⟩] w:=⟨.refl _ _,hok,fun e he=>.inr (List.mem_map.2 ⟨e,he,rfl⟩),hnd⟩;generalize hW:(((w.alloc _).alloc _).alloc _).alloc _=W;have hB:Below w.heap.size w W:=by
  subst hW;exact ((((Below.refl w.heap.size w).alloc (Nat.le_refl _) _).alloc Sm _).alloc (by simp;omega) _).alloc (by simp;omega) _
 have h1:=h0.below hB;have hgW:W.heap[gt]?=some (.cells #[.pointer none] 182 (0,0)):=(hB.block gt hlt).trans hg;refine h1.write (g:=gt) (t:=182) (cs:=[.pointer none]) (cs':=[pt ge]) .here rfl rfl rfl (by simp[World.setCell]) (fun k _ hk=>by simp[World.setCell,Array.getElem?_modify,hk,Ne.symm hk]) ?_;simp[World.setCell,Array.getElem?_modify,hgW]
theorem adE (v:Value):Fn Tryz.prog 148 [.nilIface,v] Tr (Is (.bool false)):=.of fun w=>(af6 v w).mono (by rintro e w' ⟨rfl,rfl⟩;exact⟨rfl,Below.refl _ _⟩)
attribute [local irreducible] wd DQ WO WC WX WI
theorem aeL:Fn Tryz.prog 76 [.nilIface] Tr (Is (.int .i64 0)):=by
 have hA:=adE;refine Fn.enter Tryz.func76 rfl rfl rfl ?_;intro w hw
 repeat (first|refine WO.does (vG Kr rfl) ?_|refine Tj ?_|intro _|refine WO.acall (hc:=hA _) (k:=?_)|refine Tc ?_|exact Tz)
 done
theorem acN (ge:Nat) (e:Int):Fn Tryz.prog 76 [.iface 182 (pt ge)] (fun w=>uY w∧Seg w ge 0 [.int .i64 e]) (Is (.int .i64 e)):=by
 have hA:=ae2 ge;refine Fn.enter Tryz.func76 rfl rfl rfl ?_;intro w hw;obtain⟨hwH,hwE⟩:=hw
 repeat (first|refine WO.does (vG Kr rfl) ?_|refine Tj ?_|intro _|refine Tc ?_|exact Tz)
 refine WO.callsL (hc:=hA _) (hp:=.cons Pk.a .nil) (fun w' hm=>hwH.mod hm.mod Sm) (fun v N hv=>?_);obtain⟨rfl,rfl⟩:=hv
 try dsimp only[List.cons_append,List.nil_append]
 repeat (first|refine WO.does (zm (hs:=hwE)) ?_|refine Tj ?_|intro _|refine Tc ?_|exact Tz)
 done
theorem nM (e:Int):Fn Tryz.prog 79 [.int .i64 e,.bool true] Tr (Is .nilIface):=by
 refine Fn.enter Tryz.func79 rfl rfl rfl ?_;intro w hw
 repeat (first|refine Tk ?_|intro _|exact Tz)
 done
theorem mx (e:Int):Fn Tryz.prog 79 [.int .i64 e,.bool false] Tr (Ex (fun s=>.iface 182 (pt (s 0))) (fun s=>[⟨s 0,184,[.int .i64 e]⟩]) (fun _=>True)):=by
 refine Fn.enter Tryz.func79 rfl rfl rfl ?_;intro w hw
 repeat (first|refine WO.does (vG Kr rfl) ?_|refine Tj ?_|intro _|refine Tc ?_|exact Tz)
 rename_i gE;exact WX.ret1 rfl Rv.t [⟨gE,184,[.int .i64 e]⟩] (Lle.c Lle.nil) ⟨fun _=>gE,rfl,rfl,trivial⟩
end Sx
end
section
open Go Go.RowKit Go.BigFrame
namespace Sx
section
variable {P:Program} {w0:World} {gs:LN} {K:List (Nat × Value)} {L:List Ent}
theorem my {x y:Operand} {t yt ty u:TypeId} {v:Value} (hx:ev K x=some (.iface u v)) (hy:ev K y=some .nilIface) (hr:∀ w,(binOp .neq t (.iface u v) .nilIface).run P w=.ok (.bool true) w) (hg:∀ w,(eqGuard .neq t x y (.iface u v) .nilIface).run P w=.ok () w):Does P w0 gs K L (.binOp .neq t x y yt) ty (.bool true):=by
 intro ac w hk _ o ho _;simp only[execOp,ho,hk.eval hx,hk.eval hy,Sem.run_bind,hg,Result.andThen_ok,hr,Sem.run_pure]
theorem nR {x y:Operand} {t yt ty:TypeId} (hx:ev K x=some .nilIface) (hy:ev K y=some .nilIface) (hr:∀ w,(binOp .neq t .nilIface .nilIface).run P w=.ok (.bool false) w) (hg:∀ w,(eqGuard .neq t x y .nilIface .nilIface).run P w=.ok () w):Does P w0 gs K L (.binOp .neq t x y yt) ty (.bool false):=by
 intro ac w hk _ o ho _;simp only[execOp,ho,hk.eval hx,hk.eval hy,Sem.run_bind,hg,Result.andThen_ok,hr,Sem.run_pure]
end
theorem kV (v:Value) (w:World):(binOp .neq 174 (.iface 182 v) .nilIface).run Tryz.prog w=.ok (.bool true) w:=Kr
theorem lZ (w:World):(binOp .neq 174 .nilIface .nilIface).run Tryz.prog w=.ok (.bool false) w:=Kr
theorem qE (x:Operand) (v:Value) (w:World):(eqGuard .neq 174 x (.const .nilIface) (.iface 182 v) .nilIface).run Tryz.prog w=.ok () w:=Kr
theorem qG (w:World):(eqGuard .neq 174 (.tmp 14) (.const .nilIface) .nilIface .nilIface).run Tryz.prog w=.ok () w:=Kr
def aah:Option Int→Value→List Ent→Prop
 | none=>fun v N=>v=.nilIface∧N=[]
 | some e=>fun v N=>∃ g,v=.iface 182 (pt g)∧N=[⟨g,184,[.int .i64 e]⟩]
abbrev fV (x:Nat × List Value):Value:=.func (.func x.1) #[] x.2.toArray
inductive ab9 (R:World→Prop):List (Nat × List Value)→Option Int→Prop
 | nil:ab9 R [] none
 | hit {f:Nat} {caps:LV} {rest:List (Nat × List Value)} {e:Int}:Cal Tryz.prog f→Fn Tryz.prog f caps R (aah (some e))→ab9 R ((f,caps)::rest) (some e)
 | go {f:Nat} {caps:LV} {rest:List (Nat × List Value)} {r:Option Int}:Cal Tryz.prog f→Fn Tryz.prog f caps R (aah none)→ab9 R rest r→ab9 R ((f,caps)::rest) r
theorem vE (e:Int) (b:Bool):Fn Tryz.prog 79 [.int .i64 e,.bool b] Tr (aah (if b then none else some e)):=by
 cases b with
 | true=>exact fun w hw=>(nM e w hw).mono (by rintro en w1 ⟨v,N,h1,h2,h3,h4⟩;exact⟨v,[],h1,h2,fx.nil _ _,h4,rfl⟩)
 | false=>exact fun w hw=>(mx e w hw).mono (by rintro en w' ⟨v,N,h1,h2,h3,s,h4,h5,_⟩;exact⟨v,N,h1,h2,h3,s 0,h4,h5⟩)
attribute [local irreducible] wd DQ WO WC WX WI
theorem acJ {R:World→Prop} (hR:∀ w w',R w→Mod [] w w'→R w') (fs:List (Nat × List Value)) (r:Option Int) (gR c:Nat) (hn:fs.length≤100) (hA:ab9 R fs r) :
  Fn Tryz.prog 77 [AQ gR fs.length c] (fun w=>Seg w gR 0 (fs.map fV)∧R w) (aah r):=by
 refine Fn.enter Tryz.func77 rfl rfl rfl ?_;intro w hw;obtain⟨hwF,hwR⟩:=hw
 repeat (first|refine Tk ?_|intro _|exact Tz)
 refine WC.loopI (σ:=Nat) (fun i=>i≤fs.length∧ab9 R (fs.drop i) r) (fun i=>[(6,AQ gR fs.length c),(7,.int .i64 (fs.length:Int)),(8,.int .i64 (i:Int))]) (fun _=>[]) (fun i=>fs.length - i) 0 (fun i hi=>?_) ⟨Nat.zero_le _,by simpa using hA⟩
 try dsimp only at hi ⊢
 obtain⟨hi,hAi⟩:=hi
 by_cases hlt:i<fs.length
 ·obtain⟨⟨f,caps⟩,hx⟩ : ∃ y,fs[i]?=some y:=⟨_,List.getElem?_eq_getElem hlt⟩;have hd:fs.drop i=(f,caps)::fs.drop (i+1):=by
   obtain⟨h1,h2⟩:=List.getElem?_eq_some_iff.1 hx;rw[List.drop_eq_getElem_cons hlt,h2]
  rw[hd] at hAi;have hcx:(fs.map fV)[0+i*1 - 0]?=some (fV (f,caps)):=by simp[hx]
  have hadd2:IntKind.i64.wrap ((i:Int)+1)=((i+1:Nat):Int):=zl Om Om Om
  repeat (first|refine Tk ?_|intro _|exact Tz)
  refine WC.dT rfl Om ?_
  repeat (first|refine WO.does (zb (o':=0+i*1) rfl rfl hlt rfl) ?_|refine WO.does (zm (v:=fV (f,caps)) (hs:=hwF) (hle:=Nat.zero_le _) (hc:=hcx)) ?_|refine Tj ?_|intro _|refine Tc ?_|exact Tz)
  cases hAi with
  | hit hCal hF =>
   refine WO.calls (fs:=[]) (cs:=caps) hF rfl rfl Sm (fun w1 hm=>hR _ _ hwR hm.mod) (fun v N hv=>?_);obtain⟨gE,rfl,rfl⟩:=hv
   try dsimp only[List.cons_append,List.nil_append]
   repeat (first|refine WO.does (my rfl rfl (kV _) (qE _ _)) ?_|refine Tj ?_|intro _|refine Tc ?_|exact Tz)
   exact WX.ret1 rfl Rv.t [⟨gE,184,[.int .i64 _]⟩] (Lle.c Lle.nil) ⟨gE,rfl,rfl⟩
  | go hCal hF hAr =>
   refine WO.calls (fs:=[]) (cs:=caps) hF rfl rfl Sm (fun w1 hm=>hR _ _ hwR hm.mod) (fun v N hv=>?_);obtain⟨rfl,rfl⟩:=hv
   try dsimp only[List.cons_append,List.nil_append]
   repeat (first|refine WO.does (nR rfl rfl lZ qG) ?_|refine WO.does (zi rfl rfl hadd2) ?_|refine Tj ?_|intro _|refine Tc ?_|exact Tz)
   exact WX.metI (i+1) (hs:=⟨⟨by omega,hAr⟩,by show fs.length - (i+1)<fs.length - i;omega⟩)
 ·have hi2:i=fs.length:=by omega
  subst hi2;rw[List.drop_length] at hAi;cases hAi
  repeat (first|refine Tk ?_|intro _|exact Tz)
  refine WC.dF rfl Om ?_
  repeat (first|refine Tk ?_|intro _|exact Tz)
  exact WX.ret1 rfl Rv.t [] Lle.nil ⟨rfl,rfl⟩
end Sx
end
section
open Go Go.RowKit Go.BigFrame
namespace Sx
attribute [local irreducible] DQ WC WI WO WX wd
theorem Lle.left:∀ {N L:List Ent},Lle N (N++L)
 | [],_=>trivial
 | e::_,_=>⟨e.cs,_,Pk.here,rfl,Lle.left⟩
section
variable (p q g h:Nat) (f sec:Int) (pN pV pY pP:Option Addr) (cN cV cY cP:Nat) (N:LP) (ep d:Nat) (V Y:LN) (Pr:LP) (sC sS gS gD gg gn gi:Nat)
structure CkR (w:World):Prop where
 s:Seg w gS 0 (stC p q g h f sec (.slice pN N.length cN))
 d:Seg w gD 0 (dlC ep d (.slice pV V.length cV) (.slice pY Y.length cY) (.slice pP Pr.length cP) sC sS)
 g:Seg w gg 0 (yI p q g h)
 n:Seg w gn 0 [.int .i64 (N.length:Int)]
 i:Seg w gi 0 [.func (.func 72) #[] #[pt gg]]
 rN:RdF ya (.slice pN N.length cN) N w
 rV:RdF zc (.slice pV V.length cV) V w
 rY:RdF zc (.slice pY Y.length cY) Y w
 rP:RdF pfC (.slice pP Pr.length cP) Pr w
theorem CkR.mod {w w' : World} (k:CkR p q g h f sec pN pV pY pP cN cV cY cP N ep d V Y Pr sC sS gS gD gg gn gi w) (hm:Mod [] w w'):CkR p q g h f sec pN pV pY pP cN cV cY cP N ep d V Y Pr sC sS gS gD gg gn gi w':=⟨k.s.mod hm Sm,k.d.mod hm Sm,k.g.mod hm Sm,k.n.mod hm Sm,k.i.mod hm Sm,k.rN.mod hm,k.rV.mod hm,k.rY.mod hm,k.rP.mod hm⟩
theorem agi (a:Nat) (ha:a<ze) (hp:p<ze) (hq:q<ze):Fn Tryz.prog 74 ([zk a]++[pt gg]) (fun w=>Seg w gg 0 (yI p q g h)) (Is (.bool (!gIn p q a))):=by
 have hI:=r9 p q g h a ha hp hq;generalize gIn p q a=r at *;refine Fn.enter Tryz.func74 rfl rfl rfl ?_;intro w hw
 repeat (first|refine Tj ?_|intro _|refine WO.acall (hc:=hI) (k:=?_)|refine Tc ?_|exact Tz)
 done
theorem agb (xs:LN) (b o c:Nat) (hx:∀ a∈xs,a<ze) (hn:xs.length≤1000) (hp:p<ze) (hq:q<ze):Fn Tryz.prog 72 ([.slice (some ⟨b,o,none⟩) xs.length c]++[pt gg]) (fun w=>Seg w b o (xs.flatMap zc)∧Seg w gg 0 (yI p q g h)) (Is (.bool (xs.all (gIn p q)))):=by
 have hC:=tF (f:=74) [pt gg] (fun a=>!gIn p q a) xs b o c (fun w=>Seg w gg 0 (yI p q g h)) zX.seg Om (fun x h1=>agi p q g h gg x (hx x h1) hp hq);have e:xs.all (gIn p q) = !(xs.any fun a=>!gIn p q a):=by rw[List.any_eq_not_all_not];simp
 rw[e];generalize (xs.any fun a=>!gIn p q a)=r at *;refine Fn.enter Tryz.func72 rfl rfl rfl ?_;intro w hw;obtain⟨hw1,hw2⟩:=hw
 repeat (first|refine WO.does (zH rfl rfl) ?_|refine Tj ?_|intro _|refine WO.acallR (hc:=hC) (hR:=fun w' hm=>⟨hw1.mod hm.mod Sm,hw2.mod hm.mod Sm⟩) (k:=?_)|refine Tc ?_|exact Tz)
 done
theorem ahE (hp:p<ze) (hq:q<ze) (hg:g<ze) (hh:h<ze) (hN:zZ N) (hNl:N.length≤1099511627776)
  (hf1 : -9223372036854775808≤f) (hf2:f≤9223372036854775807) (hs1 : -9223372036854775808≤sec) (hs2:sec≤9223372036854775807) :
  Fn Tryz.prog 78 [pt gS] (CkR p q g h f sec pN pV pY pP cN cV cY cP N ep d V Y Pr sC sS gS gD gg gn gi) (aah (if y5 p q g h f sec N then none else some 1)):=by
 have hS:=yh p q g h f sec pN cN N hp hq hg hh hN hNl hf1 hf2 hs1 hs2;generalize y5 p q g h f sec N=r at *;refine Fn.enter Tryz.func78 rfl rfl rfl ?_;intro w hw;have hsS:=hw.s
 repeat (first|refine WO.does (zn (vs:=stC p q g h f sec (.slice pN N.length cN)) (hs:=hsS)) ?_|refine Tj ?_|intro _|refine WO.acallR (hc:=hS) (hR:=fun w' hm=>(hw.rN.mod hm.mod)) (k:=?_)|refine Tc ?_|exact Tz)
 refine WO.calls (fs:=[]) (cs:=[]) (vE 1 r) rfl rfl rfl (fun _ _=>trivial) (fun v N hv=>?_)
 repeat (first|refine Tk ?_|intro _|exact Tz)
 exact WX.ret1 rfl Rv.t N Lle.left hv
def shB (p q:Nat) (N:LP) (d:Nat) (V Y:LN) (Pr:LP):Bool:=qD d N && decide (V.length=N.length) && decide (Y.length=N.length) && decide (Pr.length=N.length) && V.all (gIn p q) && Y.all (gIn p q)
theorem ag0 (hp:p<ze) (hq:q<ze) (hd:d<256) (hNl:N.length≤100) (hN1:1≤N.length) (hVl:V.length≤1000) (hYl:Y.length≤1000) (hPl:Pr.length≤1000) (hV:∀ a∈V,a<ze) (hY:∀ a∈Y,a<ze) :
  Fn Tryz.prog 80 [pt gS,pt gD,pt gn,pt gi] (CkR p q g h f sec pN pV pY pP cN cV cY cP N ep d V Y Pr sC sS gS gD gg gn gi) (aah (if shB p q N d V Y Pr then none else some 4)):=by
 have hNo:=acB p q g h f sec pN cN N d hd Om;refine Fn.enter Tryz.func80 rfl rfl rfl ?_;intro w hw;have hsS:=hw.s;have hsD:=hw.d;have hsn:=hw.n;have hsi:=hw.i;unfold shB;cases e1:qD d N with
 | false =>
  rw[e1] at hNo
  repeat (first|refine WO.does (zn (vs:=stC p q g h f sec (.slice pN N.length cN)) (hs:=hsS)) ?_|refine WO.does (zm (hs:=hsD)) ?_|refine WO.does (zm (hs:=hsn)) ?_|refine WO.does (zm (hs:=hsi)) ?_|refine WO.does (zO rfl rfl Om) ?_|refine WO.does (zR rfl rfl Om) ?_|refine Tj ?_|intro _|refine WO.acall (hc:=hNo) (k:=?_)|refine Tc ?_|exact Tz)
  refine WO.calls (fs:=[]) (cs:=[]) (vE 4 false) rfl rfl rfl (fun _ _=>trivial) (fun v N' hv=>?_)
  repeat (first|refine Tk ?_|intro _|exact Tz)
  exact WX.ret1 rfl Rv.t N' Lle.left hv
 | true =>
 rw[e1] at hNo
 by_cases e2:V.length=N.length
 case neg =>
  rw[decide_eq_false e2]
  repeat (first|refine WO.does (zn (vs:=stC p q g h f sec (.slice pN N.length cN)) (hs:=hsS)) ?_|refine WO.does (zm (hs:=hsD)) ?_|refine WO.does (zm (hs:=hsn)) ?_|refine WO.does (zm (hs:=hsi)) ?_|refine WO.does (zO rfl rfl Om) ?_|refine WO.does (zR rfl rfl Om) ?_|refine Tj ?_|intro _|refine WO.acall (hc:=hNo) (k:=?_)|refine Tc ?_|exact Tz)
  simp only[Bool.and_false,Bool.false_and];refine WO.calls (fs:=[]) (cs:=[]) (vE 4 false) rfl rfl rfl (fun _ _=>trivial) (fun v N' hv=>?_)
  repeat (first|refine Tk ?_|intro _|exact Tz)
  exact WX.ret1 rfl Rv.t N' Lle.left hv
 by_cases e3:Y.length=N.length
 case neg =>
  rw[decide_eq_false e3]
  repeat (first|refine WO.does (zn (vs:=stC p q g h f sec (.slice pN N.length cN)) (hs:=hsS)) ?_|refine WO.does (zm (hs:=hsD)) ?_|refine WO.does (zm (hs:=hsn)) ?_|refine WO.does (zm (hs:=hsi)) ?_|refine WO.does (zO rfl rfl Om) ?_|refine WO.does (zR rfl rfl Om) ?_|refine Tj ?_|intro _|refine WO.acall (hc:=hNo) (k:=?_)|refine Tc ?_|exact Tz)
  simp only[Bool.and_false,Bool.false_and];refine WO.calls (fs:=[]) (cs:=[]) (vE 4 false) rfl rfl rfl (fun _ _=>trivial) (fun v N' hv=>?_)
  repeat (first|refine Tk ?_|intro _|exact Tz)
  exact WX.ret1 rfl Rv.t N' Lle.left hv
 by_cases e4:Pr.length=N.length
 case neg =>
  rw[decide_eq_false e4]
  repeat (first|refine WO.does (zn (vs:=stC p q g h f sec (.slice pN N.length cN)) (hs:=hsS)) ?_|refine WO.does (zm (hs:=hsD)) ?_|refine WO.does (zm (hs:=hsn)) ?_|refine WO.does (zm (hs:=hsi)) ?_|refine WO.does (zO rfl rfl Om) ?_|refine WO.does (zR rfl rfl Om) ?_|refine Tj ?_|intro _|refine WO.acall (hc:=hNo) (k:=?_)|refine Tc ?_|exact Tz)
  simp only[Bool.and_false,Bool.false_and];refine WO.calls (fs:=[]) (cs:=[]) (vE 4 false) rfl rfl rfl (fun _ _=>trivial) (fun v N' hv=>?_)
  repeat (first|refine Tk ?_|intro _|exact Tz)
  exact WX.ret1 rfl Rv.t N' Lle.left hv
 obtain⟨x0,hx0⟩ : ∃ x,V[0]?=some x:=⟨_,List.getElem?_eq_getElem Om⟩;obtain⟨y0,hy0⟩ : ∃ x,Y[0]?=some x:=⟨_,List.getElem?_eq_getElem Om⟩;obtain⟨bV,oV,eV,_,hVs⟩:=hw.rV.get hx0;obtain⟨bY,oY,eY,_,hYs⟩:=hw.rY.get hy0;subst eV eY;have hC1:=agb p q g h gg V bV oV cV hV hVl hp hq;have hC2:=agb p q g h gg Y bY oY cY hY hYl hp hq;rw[decide_eq_true e2,decide_eq_true e3,decide_eq_true e4];cases e5:V.all (gIn p q) with
 | false =>
  rw[e5] at hC1
  repeat (first|refine WO.does (zn (vs:=stC p q g h f sec (.slice pN N.length cN)) (hs:=hsS)) ?_|refine WO.does (zm (hs:=hsD)) ?_|refine WO.does (zm (hs:=hsn)) ?_|refine WO.does (zm (hs:=hsi)) ?_|refine WO.does (zO rfl rfl Om) ?_|refine WO.does (zR rfl rfl Om) ?_|refine Tj ?_|intro _|refine WO.acall (hc:=hNo) (k:=?_)|refine WO.acallV (hc:=hC1) (hR:=fun w' hm=>⟨hVs.mod hm.mod Sm,hw.g.mod hm.mod Sm⟩) (k:=?_)|refine Tc ?_|exact Tz)
  simp only[Bool.and_false,Bool.false_and];refine WO.calls (fs:=[]) (cs:=[]) (vE 4 false) rfl rfl rfl (fun _ _=>trivial) (fun v N' hv=>?_)
  repeat (first|refine Tk ?_|intro _|exact Tz)
  exact WX.ret1 rfl Rv.t N' Lle.left hv
 | true =>
 rw[e5] at hC1;generalize Y.all (gIn p q)=r at *
 repeat (first|refine WO.does (zn (vs:=stC p q g h f sec (.slice pN N.length cN)) (hs:=hsS)) ?_|refine WO.does (zm (hs:=hsD)) ?_|refine WO.does (zm (hs:=hsn)) ?_|refine WO.does (zm (hs:=hsi)) ?_|refine WO.does (zO rfl rfl Om) ?_|refine WO.does (zR rfl rfl Om) ?_|refine Tj ?_|intro _|refine WO.acall (hc:=hNo) (k:=?_)|refine WO.acallV (hc:=hC1) (hR:=fun w' hm=>⟨hVs.mod hm.mod Sm,hw.g.mod hm.mod Sm⟩) (k:=?_)|refine WO.acallV (hc:=hC2) (hR:=fun w' hm=>⟨hYs.mod hm.mod Sm,hw.g.mod hm.mod Sm⟩) (k:=?_)|refine Tc ?_|exact Tz)
 simp only[Bool.and_true,Bool.true_and];refine WO.calls (fs:=[]) (cs:=[]) (vE 4 r) rfl rfl rfl (fun _ _=>trivial) (fun v N' hv=>?_)
 repeat (first|refine Tk ?_|intro _|exact Tz)
 exact WX.ret1 rfl Rv.t N' Lle.left hv
end
section
variable (p q g h:Nat) (f sec:Int) (pN pV pY pP:Option Addr) (cN cV cY cP:Nat) (N:LP) (ep d:Nat) (V Y:LN) (Pr:LP) (sC sS gS gD gg gn gi:Nat)
theorem ahh (n c:Nat) (hNn:N.length=n) (hfs:f+sec=(c:Int)) (hVn:V.length=n) (hn1:1≤n) (hn7:n≤7) (hc1:1≤c) (hcn:c≤n) (hnq:n<q) (hq:q<ze) (hp:p<ze) (h1p:1<p) (hV:ad6 p V) :
  Fn Tryz.prog 82 [pt gg,pt gD,pt gS] (CkR p q g h f sec pN pV pY pP cN cV cY cP N ep d V Y Pr sC sS gS gD gg gn gi) (aah (if duB p q n c V then none else some 12)):=by
 refine Fn.enter Tryz.func82 rfl rfl rfl ?_;intro w hw;obtain⟨x0,hx0⟩ : ∃ x,V[0]?=some x:=⟨_,List.getElem?_eq_getElem Om⟩;obtain⟨bV,oV,eV,_,hVs⟩:=hw.rV.get hx0;subst eV;have hlV:bV<w.heap.size:=RdF.lt (k:=3) (fun _=>rfl) hw.rV (by rintro rfl;simp at hx0);have hD:=abm p q g h V n cV c bV oV hVn hn1 hn7 hc1 hcn hnq hq hp h1p hV;have hsS:=hw.s;have hsD:=hw.d;have hsg:=hw.g;rw[hVn] at hsD;have hadd:IntKind.i64.wrap (f+sec)=(c:Int):=by rw[hfs];exact i64_in Om Om
 generalize duB p q n c V=b at *
 repeat (first|refine WO.does (zn (vs:=yI p q g h) (hs:=hsg)) ?_|refine WO.does (zm (hs:=hsD)) ?_|refine WO.does (zm (hs:=hsS)) ?_|refine WO.does (zi rfl rfl hadd) ?_|refine Tj ?_|intro _|refine Tc ?_|exact Tz)
 refine WO.calls (fs:=[]) (cs:=[]) hD rfl rfl rfl (fun w1 hm=>⟨hVs.mod hm.mod Sm,Nat.lt_of_lt_of_le hlV hm.mod.size⟩) (fun v N1 hv=>?_);obtain⟨e,rfl,he,rfl⟩:=hv;cases b with
 | true =>
  obtain rfl:=he rfl
  repeat (first|refine WO.does (zO rfl rfl rfl) ?_|refine Tj ?_|intro _|refine Tc ?_|exact Tz)
  refine WO.calls (fs:=[]) (cs:=[]) (vE 12 true) rfl rfl rfl (fun _ _=>trivial) (fun v N' hv=>?_)
  repeat (first|refine Tk ?_|intro _|exact Tz)
  exact WX.ret1 rfl Rv.t N' Lle.left hv
 | false =>
  repeat (first|refine Tk ?_|intro _|exact Tz)
  refine WO.calls (fs:=[]) (cs:=[]) (vE 12 false) rfl rfl rfl (fun _ _=>trivial) (fun v N' hv=>?_)
  repeat (first|refine Tk ?_|intro _|exact Tz)
  exact WX.ret1 rfl Rv.t N' Lle.left hv
theorem ahq (k:Nat × Nat) (hk:N[d - 1]?=some k) (hd1:1≤d) (hd:d<256) (hV0:V≠[]) (hY0:Y≠[]) (hP0:Pr≠[]) (hVl:V.length≤1000) (hYl:Y.length≤1000) (hPl:Pr.length≤1000) (hk1:k.1<ze) (hk2:k.2<ze)
  (hp:p<ze) (hq:q<ze) (hg:g<ze) (hC:sC<ze) (hS:sS<ze) (hgm:yB p g=true) (hHl:(yN ep d V Y Pr).length=32) (hHb:∀ b∈yN ep d V Y Pr,b<256) :
  Fn Tryz.prog 86 [pt gg,pt gS,pt gD] (CkR p q g h f sec pN pV pY pP cN cV cY cP N ep d V Y Pr sC sS gS gD gg gn gi) (aah (if rX p q g k.1 sC sS (yN ep d V Y Pr) then none else some 10)):=by
 have hH:=jr ep d sC sS pV pY pP cV cY cP V Y Pr hd hVl hYl hPl;have hSg:=qO p q g h k.1 sC sS (yN ep d V Y Pr) hp hq hg hk1 hC hS hHb hHl hgm;generalize yN ep d V Y Pr=H at *;generalize rX p q g k.1 sC sS H=b at *;have hbH:(byC H).length=32:=by rw[zd,hHl]
 refine Fn.enter Tryz.func86 rfl rfl rfl ?_;intro w hw;obtain⟨bN,oN,eN,_,hNs⟩:=hw.rN.get hk;subst eN;have hlt:d - 1<N.length:=by
  rcases Nat.lt_or_ge (d - 1) N.length with h1|h1
  ·exact h1
  ·rw[List.getElem?_eq_none h1] at hk;cases hk
 have hsS:=hw.s;have hsD:=hw.d;have hsg:=hw.g;have hsub:IntKind.u8.wrap ((d:Int) - 1)=((d - 1:Nat):Int):=by simp[IntKind.wrap,IntKind.signed,IntKind.bits];omega
 have hcK:=zL v7 hk;have hcx:cut (N.flatMap ya) (oN+(d - 1)*8 - oN) 4=zc k.1:=by
  rw[Nat.add_sub_cancel_left];have:cut (cut (N.flatMap ya) ((d - 1)*8) 8) 0 4=cut (N.flatMap ya) ((d - 1)*8) 4:=by unfold cut;rw[List.drop_zero,List.take_take];rfl
  rw[← this,hcK];rfl
 obtain⟨key,k2⟩:=k;dsimp only at *
 repeat (first|refine Tk ?_|intro _|exact Tz)
 refine WC.adraw 16 (k:=?_);refine DQ.does (fun s _=>zn (vs:=yI p q g h) (hs:=hsg)) Dp.const ?_;refine Dx ?_;refine DQ.does (fun s _=>zm (hs:=hsS)) Dp.const ?_;refine Dx ?_;refine DQ.does (fun s _=>zm (hs:=hsD)) Dp.const ?_;refine DQ.does (fun s _=>zG rfl rfl hsub) Dp.const ?_;refine DQ.does (fun s _=>zb (o':=oN+(d - 1)*8) rfl rfl hlt rfl) Dp.const ?_;refine Dx ?_;refine DQ.does (fun s _=>zn (vs:=zc key) (hs:=hNs) (hle:=Nat.le_add_right _ _) (hc:=hcx)) Dp.const ?_;refine DQ.does (fun s _=>zn (vs:=dlC ep d (.slice pV V.length cV) (.slice pY Y.length cY) (.slice pP Pr.length cP) sC sS) (hs:=hsD)) Dp.const ?_;refine DQ.acallM (hc:=hH) (hR:=fun w1 hm=>⟨hw.rV.mod hm.mod,hw.rY.mod hm.mod,hw.rP.mod hm.mod⟩) (k:=?_);refine Dx ?_;refine DQ.does (fun s _=>zn (vs:=vC sC sS) (hs:=hsD)) Dp.const ?_;refine DQ.acallM (hc:=hSg) (hR:=fun _ _=>trivial) (k:=?_);cases b with
 | true =>
  refine DQ.acallM (hc:=nM 10) (hR:=fun _ _=>trivial) (k:=?_);refine Dx ?_;refine DQ.anil (k:=?_);intro sx _
  repeat (first|refine Tk ?_|intro _|exact Tz)
  exact WX.ret1 rfl Rv.t [] Lle.nil ⟨rfl,rfl⟩
 | false =>
  refine DQ.callsE (fs:=fun _=>[]) (cs:=fun _=>[]) (R:=fun _=>Tr) (vf:=fun _ x=>.iface 182 (pt (x 0))) (Nf:=fun _ x=>[⟨x 0,184,[.int .i64 10]⟩]) (S:=fun _ _=>True) (fun _=>[]) (fun _=>.nil)
   (fun _=>⟨fun _=>0,trivial⟩) (fun _ _=>mx 10) (fun _=>rfl) (fun _=>rfl) (fun _=>rfl) (fun _ _ w hm=>trivial) Dp.const Dp.const Dp.const ?_
  try dsimp only[List.map_cons,List.map_nil,List.cons_append,List.nil_append]
  refine Dx ?_;refine DQ.anil (k:=?_);intro sx _
  repeat (first|refine Tk ?_|intro _|exact Tz)
  exact WX.ret1 rfl Rv.t _ (Lle.c Lle.nil) ⟨_,rfl,rfl⟩
end
def ahn:ByteArray:=⟨#[115,104,97,114,101]⟩
def pfB (p q g:Nat) (N:LP) (V Y:LN) (Pr:LP) (i:Nat):Bool:=ckB p q (zN ahn) g (V[i]?.getD 0) (N[i]?.getD (0,0)).2 (Y[i]?.getD 0) (Pr[i]?.getD (0,0)).1 (Pr[i]?.getD (0,0)).2
def acq (p q g:Nat) (N:LP) (V Y:LN) (Pr:LP):Bool:=(List.range Pr.length).all (pfB p q g N V Y Pr)
theorem ce {P:Nat→Bool} {n i:Nat} (hi:i<n) (h:P i=false):(List.range n).all P=false:=by
 rw[List.all_eq_false];exact⟨i,List.mem_range.2 hi,by simp[h]⟩
theorem abI {α:Type} {f:α→List Value} {m k o:Nat} {xs:List α} {i:Nat} {x:α} (hk:∀ x,(f x).length=k) (hx:xs[i]?=some x) (hm:o+m≤k):cut (xs.flatMap f) (i*k+o) m=cut (f x) o m:=by
 rw[← zL hk hx];unfold cut;rw[List.drop_take,List.take_take,List.drop_drop,Nat.min_eq_left Om]
section
variable (p q g h:Nat) (f sec:Int) (pN pV pY pP:Option Addr) (cN cV cY cP:Nat) (N:LP) (ep d:Nat) (V Y:LN) (Pr:LP) (sC sS gS gD gg gn gi:Nat)
theorem ahs (hVn:V.length=Pr.length) (hYn:Y.length=Pr.length) (hNn:N.length=Pr.length) (hP7:Pr.length≤7) (hN:zZ N) (hV:∀ a∈V,a<ze) (hY:∀ a∈Y,a<ze) (hPr:zZ Pr) (hp:p<ze) (hq:q<ze) (hg:g<ze) :
  Fn Tryz.prog 84 [pt gD,pt gg,pt gS] (CkR p q g h f sec pN pV pY pP cN cV cY cP N ep d V Y Pr sC sS gS gD gg gn gi) (aah (if acq p q g N V Y Pr then none else some 11)):=by
 refine Fn.enter Tryz.func84 rfl rfl rfl ?_;intro w hw;have hsS:=hw.s;have hsD:=hw.d;have hsg:=hw.g
 repeat (first|refine WO.does (zm (hs:=hsD)) ?_|refine Tj ?_|intro _|refine Tc ?_|exact Tz)
 refine WC.loopI (σ:=Nat) (fun i=>i≤Pr.length∧∀ j,j<i→pfB p q g N V Y Pr j=true) (fun i=>[(0,pt gD),(1,pt gg),(2,pt gS),(7,.slice pP Pr.length cP),(8,.int .i64 (Pr.length:Int)),(9,.int .i64 (i:Int))]) (fun _=>[]) (fun i=>Pr.length - i) 0 (fun i hi=>?_) ⟨Nat.zero_le _,fun j hj=>absurd hj (Nat.not_lt_zero _)⟩
 try dsimp only at hi ⊢
 obtain⟨hi,h0⟩:=hi
 by_cases hlt:i<Pr.length
 ·obtain⟨x,hx⟩ : ∃ y,V[i]?=some y:=⟨_,List.getElem?_eq_getElem Om⟩;obtain⟨y,hy⟩ : ∃ z,Y[i]?=some z:=⟨_,List.getElem?_eq_getElem Om⟩;obtain⟨k,hk⟩ : ∃ z,N[i]?=some z:=⟨_,List.getElem?_eq_getElem Om⟩;obtain⟨pr,hpr⟩ : ∃ z,Pr[i]?=some z:=⟨_,List.getElem?_eq_getElem Om⟩;obtain⟨bV,oV,eV,_,hVs⟩:=hw.rV.get hx;obtain⟨bY,oY,eY,_,hYs⟩:=hw.rY.get hy;obtain⟨bN,oN,eN,_,hNs⟩:=hw.rN.get hk;obtain⟨bP,oP,eP,_,hPs⟩:=hw.rP.get hpr;subst eV eY eN eP;have hcV:cut (V.flatMap zc) (oV+i*4 - oV) 4=zc x:=by rw[Nat.add_sub_cancel_left];exact zL zU hx
  have hcY:cut (Y.flatMap zc) (oY+i*4 - oY) 4=zc y:=by rw[Nat.add_sub_cancel_left];exact zL zU hy
  have hcP:cut (Pr.flatMap pfC) (oP+i*8 - oP) 8=pfC pr:=by rw[Nat.add_sub_cancel_left];exact zL pR hpr
  have hcN:cut (N.flatMap ya) (oN+i*8+4 - oN) 4=zc k.2:=by
   rw[Nat.add_assoc,Nat.add_sub_cancel_left,abI v7 hk Dtt];rfl
  have hadd2:IntKind.i64.wrap ((i:Int)+1)=((i+1:Nat):Int):=zl Om Om Om;have hC:=adZ p q g h ahn g x k.2 y pr.1 pr.2 hp hq hg (hV _ (List.mem_of_getElem? hx)) (hN _ (List.mem_of_getElem? hk)).2 (hY _ (List.mem_of_getElem? hy)) (hPr _ (List.mem_of_getElem? hpr)).1 (hPr _ (List.mem_of_getElem? hpr)).2 Dtt;have hb:ckB p q (zN ahn) g x k.2 y pr.1 pr.2=pfB p q g N V Y Pr i:=by unfold pfB;rw[hx,hy,hk,hpr];rfl
  rw[hb] at hC;cases hr:pfB p q g N V Y Pr i with
  | true =>
   rw[hr] at hC
   repeat (first|refine Tk ?_|intro _|exact Tz)
   refine WC.dT rfl Om ?_
   repeat (first|refine WO.does (zb (o':=oP+i*8) rfl rfl hlt rfl) ?_|refine WO.does (zn (vs:=pfC pr) (hs:=hPs) (hle:=Nat.le_add_right _ _) (hc:=hcP)) ?_|refine Tj ?_|intro _|refine Tc ?_|exact Tz)
   refine WC.adraw 22 (k:=?_);refine DQ.does (fun s _=>zn (vs:=yI p q g h) (hs:=hsg)) Dp.const ?_;refine Dx ?_;refine DQ.does (fun s _=>zn (vs:=zc g) (hs:=hsg)) Dp.const ?_;refine Dx ?_;refine DQ.does (fun s _=>zm (hs:=hsD)) Dp.const ?_;refine Dx ?_;refine DQ.does (fun s _=>zb (o':=oV+i*4) rfl rfl Om rfl) Dp.const ?_;refine DQ.does (fun s _=>zn (vs:=zc x) (hs:=hVs) (hle:=Nat.le_add_right _ _) (hc:=hcV)) Dp.const ?_;refine Dx ?_;refine DQ.does (fun s _=>zm (hs:=hsS)) Dp.const ?_;refine Dx ?_;refine DQ.does (fun s _=>zb (o':=oN+i*8) rfl rfl Om rfl) Dp.const ?_;refine Dx ?_;refine DQ.does (fun s _=>zn (vs:=zc k.2) (hs:=hNs) (hle:=by omega) (hc:=hcN)) Dp.const ?_;refine Dx ?_;refine DQ.does (fun s _=>zm (hs:=hsD)) Dp.const ?_;refine Dx ?_;refine DQ.does (fun s _=>zb (o':=oY+i*4) rfl rfl Om rfl) Dp.const ?_;refine DQ.does (fun s _=>zn (vs:=zc y) (hs:=hYs) (hle:=Nat.le_add_right _ _) (hc:=hcY)) Dp.const ?_;refine DQ.does (fun s _=>zw (vs:=pfC pr) (hc:=rfl)) Dp.const ?_;refine DQ.acallM (hc:=hC) (hR:=fun _ _=>trivial) (k:=?_);refine Dx ?_;refine DQ.anil (k:=?_);intro sx _
   repeat (first|refine WO.does (zi rfl rfl hadd2) ?_|refine Tj ?_|intro _|refine Tc ?_|exact Tz)
   exact WX.metI (i+1) (hs:=⟨⟨by omega,fun j hj=>by
    by_cases e:j=i
    ·subst e;exact hr
    ·exact h0 j Om⟩,by show Pr.length - (i+1)<Pr.length - i;omega⟩)
  | false =>
   rw[hr] at hC;rw[show acq p q g N V Y Pr=false from ce hlt hr]
   repeat (first|refine Tk ?_|intro _|exact Tz)
   refine WC.dT rfl Om ?_
   repeat (first|refine WO.does (zb (o':=oP+i*8) rfl rfl hlt rfl) ?_|refine WO.does (zn (vs:=pfC pr) (hs:=hPs) (hle:=Nat.le_add_right _ _) (hc:=hcP)) ?_|refine Tj ?_|intro _|refine Tc ?_|exact Tz)
   refine WC.adraw 22 (k:=?_);refine DQ.does (fun s _=>zn (vs:=yI p q g h) (hs:=hsg)) Dp.const ?_;refine Dx ?_;refine DQ.does (fun s _=>zn (vs:=zc g) (hs:=hsg)) Dp.const ?_;refine Dx ?_;refine DQ.does (fun s _=>zm (hs:=hsD)) Dp.const ?_;refine Dx ?_;refine DQ.does (fun s _=>zb (o':=oV+i*4) rfl rfl Om rfl) Dp.const ?_;refine DQ.does (fun s _=>zn (vs:=zc x) (hs:=hVs) (hle:=Nat.le_add_right _ _) (hc:=hcV)) Dp.const ?_;refine Dx ?_;refine DQ.does (fun s _=>zm (hs:=hsS)) Dp.const ?_;refine Dx ?_;refine DQ.does (fun s _=>zb (o':=oN+i*8) rfl rfl Om rfl) Dp.const ?_;refine Dx ?_;refine DQ.does (fun s _=>zn (vs:=zc k.2) (hs:=hNs) (hle:=by omega) (hc:=hcN)) Dp.const ?_;refine Dx ?_;refine DQ.does (fun s _=>zm (hs:=hsD)) Dp.const ?_;refine Dx ?_;refine DQ.does (fun s _=>zb (o':=oY+i*4) rfl rfl Om rfl) Dp.const ?_;refine DQ.does (fun s _=>zn (vs:=zc y) (hs:=hYs) (hle:=Nat.le_add_right _ _) (hc:=hcY)) Dp.const ?_;refine DQ.does (fun s _=>zw (vs:=pfC pr) (hc:=rfl)) Dp.const ?_;refine DQ.acallM (hc:=hC) (hR:=fun _ _=>trivial) (k:=?_);refine Dx ?_;refine DQ.anil (k:=?_);intro sx _
   repeat (first|refine WO.does (vG Kr rfl) ?_|refine Tj ?_|intro _|refine Tc ?_|exact Tz)
   exact WX.ret1 rfl Rv.t [⟨_,184,[.int .i64 11]⟩] (Lle.c Lle.nil) ⟨_,rfl,rfl⟩
 ·have hi2:i=Pr.length:=by omega
  have hall:acq p q g N V Y Pr=true:=by
   unfold acq;rw[List.all_eq_true];exact fun j hj=>h0 j (by have:=List.mem_range.1 hj;omega)
  rw[hall]
  repeat (first|refine Tk ?_|intro _|exact Tz)
  refine WC.dF rfl Om ?_
  repeat (first|refine Tk ?_|intro _|exact Tz)
  exact WX.ret1 rfl Rv.t [] Lle.nil ⟨rfl,rfl⟩
end
end Sx
end
section
open Go Go.RowKit Go.BigFrame
namespace Sx
section
variable (p q g h:Nat) (f sec:Int) (N:LP) (ep d:Nat) (V Y:LN) (Pr:LP) (sC sS:Nat)
def ckE:Option Int:=if y5 p q g h f sec N then (if shB p q N d V Y Pr then (if duB p q N.length (f+sec).toNat V then (if acq p q g N V Y Pr then (if rX p q g (N[d - 1]?.getD (0,0)).1 sC sS (yN ep d V Y Pr) then none else some 10) else some 11) else some 12) else some 4) else some 1
end
theorem vM {a q:Nat} (h1:1<q) (h2:a<q):zP a a q=true:=by unfold zP;simp[h1,h2]
theorem ahg {q a b:Nat} (h1:1<q) (ha:a<q) (hb:b<q):([a,b].all fun x=>zP x x q)=true:=by simp[vM h1 ha,vM h1 hb]
theorem sZ {q x:Nat} {H:LN} (h1:1<q):yw q x H<q∧yw q x H≠0:=by
 unfold yw;split
 ·exact⟨h1,by decide⟩
 ·rename_i h;exact⟨vX Om _ _,h⟩
theorem li {p q a:Nat} (h:kB p q a=true):gIn p q a=true∧a≠1:=by
 unfold kB at h;simpa using h
section
variable {p q g h:Nat} {f sec:Int} {N:LP} {ep d x:Nat} {l:LN}
theorem tT (hS:y5 p q g h f sec N=true):kB p q g=true∧(∀ i,i<N.length→kB p q (N.getD i (0,0)).1=true∧kB p q (N.getD i (0,0)).2=true)∧N.length<8∧(N.length:Int)+sec<(q:Int)∧0≤f∧1≤sec:=by
 unfold y5 at hS;simp only[Bool.and_eq_true,decide_eq_true_eq] at hS;obtain⟨⟨⟨⟨⟨⟨⟨⟨⟨⟨h1,h2⟩,h3⟩,h4⟩,h5⟩,h6⟩,h7⟩,h8⟩,h9⟩,h10⟩,h11⟩:=hS;refine⟨h9,fun i hi=>?_,by omega,h8,h1,h3⟩;have:=List.all_eq_true.1 h11 N[i] (List.getElem_mem hi);rw[List.getD_eq_getElem?_getD,List.getElem?_eq_getElem hi];simpa using this
theorem ade {k y draw:Nat} (hg:gIn p q g=true) (hy:gIn p q y=true) (h1:1<q) (hk:k<q) (hd:draw<q∧draw≠0) :
  ckB p q (zN u7) g (g ^ k%p) y (y ^ k%p) (pfN p q g k y draw).1 (pfN p q g k y draw).2=true:=by
 have hB:prB p q k g y draw=true:=by
  unfold prB;rw[vj hg,vj hy,vM h1 hk,vM h1 hd.1];simp[hd.2]
 unfold pfN;rw[hB,uE,uE];have hc:prC p q (zN u7) k g y draw<q:=vX Om _ _;have e1:=ob (x:=k) hg hc hd.1;have e2:=ob (x:=k) hy hc hd.1;dsimp only;generalize hC:prC p q (zN u7) k g y draw=c at *;unfold ckB;rw[hg,ng hg Om,hy,ng hy Om,vM h1 hc,vM h1 (Nat.mod_lt _ Om)];simp only[Bool.true_and,Bool.and_true,decide_eq_true_eq];unfold ckC uc;rw[e1,e2,← hC];rfl
theorem ahb {key draw c:Nat} {H:LN} (hg:gIn p q g=true) (hk:gIn p q key=true) (hk1:key≠1) (h1:1<q) (e:g ^ x%p=key) (hd:draw<q) (hc:c<q) (hC:c=eo q key (g ^ draw%p) H) :
  rX p q g key c ((draw+x*c%q)%q) H=true:=by
 have e1:=ob (x:=x) hg hc hd;rw[e] at e1;have e2:prD p [g,key] [(draw+x*c%q)%q,(0+q - c)%q]=g ^ draw%p:=by
  unfold prD;simp only[List.zip_cons_cons,List.zip_nil_left,List.foldl_cons,List.foldl_nil,Nat.one_mul,Nat.mod_mod];exact e1
 unfold rX;rw[hk,ahg h1 hc (Nat.mod_lt (draw+x*c%q) Om),e2,decide_eq_false hk1,decide_eq_true hC];rfl
theorem c8 {key draw:Nat} {H:LN} (hg:gIn p q g=true) (hk:gIn p q key=true) (hk1:key≠1) (h1:1<q) (hx:x<q) (e:g ^ x%p=key) (hd:draw<q∧draw≠0) :
  rX p q g key (sgN p q g x draw H).1 (sgN p q g x draw H).2 H=true:=by
 obtain⟨⟨hp1,_,_⟩,_⟩:=uH hg;have hx0:x≠0:=by
  rintro rfl;rw[Nat.pow_zero,Nat.mod_eq_of_lt hp1] at e;exact hk1 e.symm
 have hB:sgB p q g x draw=true:=by
  unfold sgB;rw[vj hg,vM h1 hx,vM h1 hd.1];simp[hx0,hd.2]
 have hs:sgN p q g x draw H=(sgC p q g x draw H,(draw+x*sgC p q g x draw H%q)%q):=by
  unfold sgN;rw[hB,uE,uE]
 have hC:sgC p q g x draw H=eo q key (g ^ draw%p) H:=by
  unfold sgC eo;rw[e]
 have hc:sgC p q g x draw H<q:=vX Om _ _;rw[hs];generalize sgC p q g x draw H=c at *;exact ahb hg hk hk1 h1 e hd.1 hc hC
theorem eS (hP:Pri q) (hA:gm p q g h f sec N d l x=true) :
  ckE p q g h f sec N ep d (dVs p q g l N.length) (dYs p q l N N.length) (dPs p q g l N ep d x N.length) (dSg p q g l N ep d x N.length).1 (dSg p q g l N ep d x N.length).2=none:=by
 unfold gm at hA;simp only[Bool.and_eq_true] at hA;obtain⟨⟨⟨hS,hN⟩,hl⟩,hx⟩:=hA;obtain⟨hlen,hall⟩:=hl;obtain⟨hkg,hks,hn8,hnq,hf,hsec⟩:=tT hS;obtain⟨hg,_⟩:=li hkg;have h1:=hP.1;have hn:N.length<q:=by omega
 have hlen':=of_decide_eq_true hlen;have hsh:∀ i,shN q l i<q:=fun i=>Nat.mod_lt _ Om;have hV:∀ i,dV p q g l i=g ^ shN q l i%p:=fun i=>pL hg _;have hky:∀ i,i<N.length→gIn p q (ky N i)=true:=fun i hi=>(li (hks i hi).2).1;have hY:∀ i,i<N.length→dY p q l N i=ky N i ^ shN q l i%p:=fun i hi=>pL (hky i hi) _;have aV:∀ i,i<N.length→(dVs p q g l N.length)[i]?.getD 0=g ^ shN q l i%p:=fun i hi=>by
  unfold dVs;rw[List.getElem?_map,List.getElem?_range hi];exact hV i
 have aY:∀ i,i<N.length→(dYs p q l N N.length)[i]?.getD 0=ky N i ^ shN q l i%p:=fun i hi=>by
  unfold dYs;rw[List.getElem?_map,List.getElem?_range hi];exact hY i hi
 unfold ckE;rw[hS,if_pos rfl];have b1:shB p q N d (dVs p q g l N.length) (dYs p q l N N.length) (dPs p q g l N ep d x N.length)=true:=by
  unfold shB;rw[hN];have v1:(dVs p q g l N.length).all (gIn p q)=true:=by
   rw[List.all_eq_true];intro v hv;unfold dVs at hv;obtain⟨i,_,rfl⟩:=List.mem_map.1 hv;rw[hV];exact ng hg Om _
  have v2:(dYs p q l N N.length).all (gIn p q)=true:=by
   rw[List.all_eq_true];intro v hv;unfold dYs at hv;obtain⟨i,hi,rfl⟩:=List.mem_map.1 hv;have hi':=List.mem_range.1 hi;rw[hY i hi'];exact ng (hky i hi') Om _
  rw[v1,v2];simp[dVs,dYs,dPs]
 rw[b1,if_pos rfl];have b2:duB p q N.length (f+sec).toNat (dVs p q g l N.length)=true:=by
  have hc:(f+sec).toNat=l.length:=by omega
  rw[hc];unfold duB;rw[Bool.or_eq_true,Bool.and_eq_true];refine .inr ⟨ja hP hn,?_⟩;rw[List.all_eq_true];intro k hk;have hk':=List.mem_range.1 hk;rw[decide_eq_true_eq];have hz:=eT (l:=l) (k:=k) hP hn8 hn Om (ja hP hn);have e:dVs p q g l N.length=((List.range N.length).map (shN q l)).map (fun e=>g ^ e%p):=by
   unfold dVs;rw[List.map_map];exact List.map_congr_left (fun i _=>hV i)
  obtain⟨⟨hp1,_,_⟩,_⟩:=uH hg;rw[e,ad1 hp1 (by simp[dwL]),kY hg];unfold dwL;rw[hz,Nat.pow_zero,Nat.mod_eq_of_lt hp1];exact (oQ (m:=1) Om Om).symm
 rw[b2,if_pos rfl];have b3:acq p q g N (dVs p q g l N.length) (dYs p q l N N.length) (dPs p q g l N ep d x N.length)=true:=by
  unfold acq;rw[List.all_eq_true];intro i hi;have hi' : i<N.length:=by have:=List.mem_range.1 hi;simpa [dPs] using this
  unfold pfB;rw[aV i hi',aY i hi'];have e1:(N[i]?.getD (0,0)).2=ky N i:=by unfold ky;rw[List.getD_eq_getElem?_getD]
  have e2:(dPs p q g l N ep d x N.length)[i]?.getD (0,0)=dP p q g l N ep d x i:=by
   unfold dPs;rw[List.getElem?_map,List.getElem?_range hi'];rfl
  rw[e1,e2];exact ade hg (hky i hi') h1 (hsh i) (sZ h1)
 rw[b3,if_pos rfl];obtain⟨hd1,hdn⟩:=si hN;have hkk:=hks (d - 1) Om;unfold adL at hx;simp only[Bool.and_eq_true,decide_eq_true_eq] at hx;have hxq:x<q:=by
  have:=hx.1.1;unfold zP at this;simp only[Bool.and_eq_true,decide_eq_true_eq] at this;exact this.2
 have b4:rX p q g (N[d - 1]?.getD (0,0)).1 (dSg p q g l N ep d x N.length).1 (dSg p q g l N ep d x N.length).2 (yN ep d (dVs p q g l N.length) (dYs p q l N N.length) (dPs p q g l N ep d x N.length))=true:=by
  have e1:(N[d - 1]?.getD (0,0)).1=sgK N d:=by unfold sgK;rw[List.getD_eq_getElem?_getD]
  rw[e1];exact c8 hg (li hkk.1).1 (li hkk.1).2 h1 hxq hx.2 (sZ h1)
 rw[b4,if_pos rfl]
end
end Sx
end
section
open Go Go.RowKit Go.BigFrame
namespace Sx
attribute [local irreducible] DQ WC WI WO WX wd
def mi (P:Nat→Nat→Bool) (xs ys:LN):Bool:=(List.range xs.length).all fun i=>P (xs[i]?.getD 0) (ys[i]?.getD 0)
theorem gT {f:Nat} [Cal Tryz.prog f] (caps:LV) (Pb:Nat→Nat→Bool) (xs ys:LN) (px py:Option Addr) (cx cy:Nat) (R:World→Prop) (hst:zX R) (hn:xs.length≤1000)
  (hf:∀ x∈xs,∀ y∈ys,Fn Tryz.prog f ([zk x,zk y]++caps) R (Is (.bool (Pb x y)))) :
  Fn Tryz.prog 161 [.slice px xs.length cx,.slice py ys.length cy,.func (.func f) #[] caps.toArray] (fun w=>RdF zc (.slice px xs.length cx) xs w∧RdF zc (.slice py ys.length cy) ys w∧R w) (Is (.bool (decide (xs.length=ys.length) && mi Pb xs ys))):=by
 refine Fn.enter Tryz.func161 rfl rfl rfl ?_;intro w hw;obtain⟨hwx,hwy,hwR⟩:=hw
 by_cases he:xs.length=ys.length
 case neg =>
  rw[decide_eq_false he,Bool.false_and]
  repeat (first|refine WO.does (yR rfl rfl Om) ?_|refine Tj ?_|intro _|refine Tc ?_|exact Tz)
  done
 rw[decide_eq_true he,Bool.true_and]
 repeat (first|refine Tk ?_|intro _|exact Tz)
 refine WC.dF rfl Om ?_
 repeat (first|refine Tk ?_|intro _|exact Tz)
 refine WC.loopI (σ:=Nat) (fun i=>i≤xs.length∧∀ j,j<i→Pb (xs[j]?.getD 0) (ys[j]?.getD 0)=true) (fun i=>[(1,.slice py ys.length cy),(2,.func (.func f) #[] caps.toArray),(15,.slice px xs.length cx),(16,.int .i64 (xs.length:Int)),(17,.int .i64 (i:Int))]) (fun _=>[]) (fun i=>xs.length - i) 0 (fun i hi=>?_) ⟨Nat.zero_le _,fun j hj=>absurd hj (Nat.not_lt_zero _)⟩
 try dsimp only at hi ⊢
 obtain⟨hi,h0⟩:=hi
 by_cases hlt:i<xs.length
 ·obtain⟨x,hx⟩ : ∃ y,xs[i]?=some y:=⟨_,List.getElem?_eq_getElem Om⟩;obtain⟨y,hy⟩ : ∃ z,ys[i]?=some z:=⟨_,List.getElem?_eq_getElem Om⟩;obtain⟨bx,ox,ex,_,hxs⟩:=hwx.get hx;obtain⟨bY,oy,ey,_,hys⟩:=hwy.get hy;subst ex ey;have hcx:cut (xs.flatMap zc) (ox+i*4 - ox) 4=zc x:=by rw[Nat.add_sub_cancel_left];exact zL zU hx
  have hcy:cut (ys.flatMap zc) (oy+i*4 - oy) 4=zc y:=by rw[Nat.add_sub_cancel_left];exact zL zU hy
  have hadd2:IntKind.i64.wrap ((i:Int)+1)=((i+1:Nat):Int):=zl Om Om Om;have hF:=hf x (List.mem_of_getElem? hx) y (List.mem_of_getElem? hy);have hb:Pb (xs[i]?.getD 0) (ys[i]?.getD 0)=Pb x y:=by rw[hx,hy];rfl
  cases hr:Pb x y with
  | true =>
   rw[hr] at hF
   repeat (first|refine Tk ?_|intro _|exact Tz)
   refine WC.dT rfl Om ?_
   repeat (first|refine WO.does (zi rfl rfl hadd2) ?_|refine Tj ?_|intro _|refine WO.does (zb (o':=ox+i*4) rfl rfl hlt rfl) ?_|refine WO.does (zn (vs:=zc x) (hs:=hxs) (hle:=Nat.le_add_right _ _) (hc:=hcx)) ?_|refine WO.does (zb (o':=oy+i*4) rfl rfl Om rfl) ?_|refine WO.does (zn (vs:=zc y) (hs:=hys) (hle:=Nat.le_add_right _ _) (hc:=hcy)) ?_|refine WO.acallV (hc:=hF) (hR:=fun w' hm=>hst _ _ hwR hm.mod.below) (k:=?_)|refine Tc ?_|exact Tz)
   exact WX.metI (i+1) (hs:=⟨⟨by omega,fun j hj=>by
    by_cases e:j=i
    ·subst e;rw[hb];exact hr
    ·exact h0 j Om⟩,by show xs.length - (i+1)<xs.length - i;omega⟩)
  | false =>
   rw[hr] at hF;rw[show mi Pb xs ys=false from ce hlt (by rw[hb];exact hr)]
   repeat (first|refine Tk ?_|intro _|exact Tz)
   refine WC.dT rfl Om ?_
   repeat (first|refine Tj ?_|intro _|refine WO.does (zb (o':=ox+i*4) rfl rfl hlt rfl) ?_|refine WO.does (zn (vs:=zc x) (hs:=hxs) (hle:=Nat.le_add_right _ _) (hc:=hcx)) ?_|refine WO.does (zb (o':=oy+i*4) rfl rfl Om rfl) ?_|refine WO.does (zn (vs:=zc y) (hs:=hys) (hle:=Nat.le_add_right _ _) (hc:=hcy)) ?_|refine WO.acallV (hc:=hF) (hR:=fun w' hm=>hst _ _ hwR hm.mod.below) (k:=?_)|refine Tc ?_|exact Tz)
   done
 ·have hi2:i=xs.length:=by omega
  rw[show mi Pb xs ys=true by
   unfold mi;rw[List.all_eq_true];exact fun j hj=>h0 j (by have:=List.mem_range.1 hj;omega)]
  repeat (first|refine Tk ?_|intro _|exact Tz)
  refine WC.dF rfl Om ?_
  repeat (first|refine Tk ?_|intro _|exact Tz)
  done
section
variable (p q g h:Nat) (f sec:Int) (pN pV pY pP:Option Addr) (cN cV cY cP:Nat) (N:LP) (ep d:Nat) (V Y:LN) (Pr:LP) (sC sS:Nat) (l:LN) (pz:Option Addr) (cz:Nat)
theorem aK (v x gS:Nat) (hv:v<ze) (hx:x<ze) (hg:g<ze) (hp:p<ze):Fn Tryz.prog 162 ([zk v,zk x]++[pt gS]) (fun w=>Seg w gS 0 (stC p q g h f sec (.slice pN N.length cN))) (Is (.bool (decide (v=exN p g x)))):=by
 have hE:=vQ p q g h g x hg hx hp;simp only[rE] at hE;rw[show okV (yB p g) (g ^ x%p)=exN p g x from rfl] at hE;have hl:exN p g x<ze:=ub (n:=x) (a:=g) hp;generalize exN p g x=y at *;generalize okE (yB p g)=e at *;refine Fn.enter Tryz.func162 rfl rfl rfl ?_;intro w hw
 repeat (first|refine Tj ?_|intro _|refine WO.does (zn (vs:=yI p q g h) (hs:=hw)) ?_|refine WO.does (zn (vs:=zc g) (hs:=hw)) ?_|refine WO.acall (hc:=hE) (k:=?_)|refine WO.does (zB (a:=y) (b:=v) (r:=decide (v=y)) rfl rfl hl hv (decide_eq_decide.2 eq_comm)) ?_|refine Tc ?_|exact Tz)
 done
def aee (p q g h:Nat) (f sec:Int) (N:LP) (V l:LN):Bool:=y5 p q g h f sec N && (decide ((l.length:Int)=f+sec) && uz q l) && (decide (V.length=N.length) && mi (fun v x=>decide (v=exN p g x)) V (shL q l N.length))
theorem jq {q n:Nat} {l:LN}:(shL q l n).length=n:=by simp[shL]
theorem ado {q n:Nat} {l:LN} (h:0<q):∀ a∈shL q l n,a<q:=fun a ha=>by
 unfold shL at ha;obtain⟨j,_,rfl⟩:=List.mem_map.1 ha;exact Nat.mod_lt _ h
theorem adF (hp:p<ze) (hq:q<ze) (hg:g<ze) (hh:h<ze) (hN:zZ N) (hNl:N.length≤100)
  (hf1 : -9223372036854775808≤f) (hf2:f≤9223372036854775807) (hs1 : -9223372036854775808≤sec) (hs2:sec≤9223372036854775807)
  (hV:∀ a∈V,a<ze) (hVl:V.length≤100) (hl:∀ a∈l,a<ze) (hn:l.length≤100) :
  Fn Tryz.prog 89 [stV p q g h f sec (.slice pN N.length cN),dlV ep d (.slice pV V.length cV) (.slice pY Y.length cY) (.slice pP Pr.length cP) sC sS,.slice pz l.length cz]
   (fun w=>RdF ya (.slice pN N.length cN) N w∧RdF zc (.slice pV V.length cV) V w∧RdF zc (.slice pz l.length cz) l w) (Is (.bool (aee p q g h f sec N V l))):=by
 have hS:=yh p q g h f sec pN cN N hp hq hg hh hN Om hf1 hf2 hs1 hs2;unfold aee;cases e0:y5 p q g h f sec N with
 | false =>
  rw[e0] at hS;refine Fn.enter Tryz.func89 rfl rfl rfl ?_;intro w hw;obtain⟨hwN,hwV,hwl⟩:=hw
  repeat (first|refine Tj ?_|intro _|refine WO.acallR (hc:=hS) (hR:=fun w1 hm=>(hwN.mod hm.mod)) (k:=?_)|refine Tc ?_|exact Tz)
  done
 | true =>
 rw[e0] at hS;obtain⟨hn1,hn7,hnq,hf0,hs1',hfs5,hgm,hhm⟩:=zS e0;have hP:=acH p q g h f sec (.slice pN N.length cN) l pz cz hl Om hq ⟨hf0,by omega,hfs5⟩;cases e1:(decide ((l.length:Int)=f+sec) && uz q l) with
 | false =>
  rw[e1] at hP;refine Fn.enter Tryz.func89 rfl rfl rfl ?_;intro w hw;obtain⟨hwN,hwV,hwl⟩:=hw
  repeat (first|refine Tj ?_|intro _|refine WO.acallR (hc:=hS) (hR:=fun w1 hm=>(hwN.mod hm.mod)) (k:=?_)|refine WO.acallR (hc:=hP) (hR:=fun w1 hm=>(hwl.mod hm.mod)) (k:=?_)|refine Tc ?_|exact Tz)
  done
 | true =>
 rw[e1] at hP;have hall:uz q l=true:=by rw[Bool.and_eq_true] at e1;exact e1.2
 have hO:=acj p q g h l pz cz N.length hl Om hq hall hn1 hn7 Om;have hE:=fun gS gL=>gT (f:=162) [pt gS] (fun v x=>decide (v=exN p g x)) V (shL q l N.length) pV (some ⟨gL,0,none⟩) cV N.length (fun w=>Seg w gS 0 (stC p q g h f sec (.slice pN N.length cN))) zX.seg Om (fun v hv x hx=>aK p q g h f sec pN cN N v x gS (hV v hv) (Nat.lt_trans (ado Om x hx) hq) hg hp);rw[jq] at hE;have hlen:(shL q l N.length).length=N.length:=jq;generalize shL q l N.length=S at *;generalize mi (fun v x=>decide (v=exN p g x)) V S=b at *;refine Fn.enter Tryz.func89 rfl rfl rfl ?_;intro w hw;obtain⟨hwN,hwV,hwl⟩:=hw
 repeat (first|refine Tj ?_|intro _|refine WO.acallR (hc:=hS) (hR:=fun w1 hm=>(hwN.mod hm.mod)) (k:=?_)|refine WO.acallR (hc:=hP) (hR:=fun w1 hm=>(hwl.mod hm.mod)) (k:=?_)|refine Tc ?_|exact Tz)
 refine WO.calls (fs:=[]) (cs:=[]) hO rfl rfl rfl (fun w1 hm=>hwl.mod hm.mod) (fun u N1 hu=>?_);obtain⟨s,rfl,rfl,_⟩:=hu;generalize s 0=gL
 try dsimp only[List.cons_append,List.nil_append]
 repeat (first|refine WO.does (zH rfl rfl) ?_|refine Tj ?_|intro _|refine WO.acallR (hc:=hE _ _) (hR:=fun w1 hm=>⟨hwV.mod hm.mod,RdF.ownD (Hs.sg hm) hlen,Hs.sg hm⟩) (k:=?_)|refine Tc ?_|exact Tz)
 done
end
end Sx
end
section
open Go Go.RowKit Go.BigFrame
namespace Sx
theorem adA {p q g a b:Nat} (hP:Pri q) (hg:gIn p q g=true) (hg1:g≠1) (ha:a<q) (hb:b<q) (h:g ^ a%p=g ^ b%p):a=b:=by
 obtain⟨⟨h1,h2,h3⟩,h4⟩:=uH hg;have key:∀ a b,a<b→b<q→g ^ a%p=g ^ b%p→False:=by
  intro a b hab hb h;have e1:g ^ (a+(q - a))%p=g ^ (b+(q - a))%p:=by rw[← uM,← uM,h]
  rw[show a+(q - a)=q by omega,h4,show b+(q - a)=b - a+q by omega] at e1;have e2:g ^ (b - a+q)%p=g ^ (b - a)%p:=bp hg (by rw[Nat.add_mod_right]);rw[e2] at e1;have hd:=hP.2 (b - a) Om Om;have hi:=(tW hP.1 (by omega:b - a<q) hd).1;have e3:g ^ ((b - a)*uX (b - a) q)%p=g ^ 1%p:=bp hg (by rw[Nat.mul_comm,hi,Nat.mod_eq_of_lt hP.1]);rw[← uG,← e1,Nat.one_pow,Nat.mod_eq_of_lt h1,Nat.pow_one,Nat.mod_eq_of_lt h3] at e3;exact hg1 e3.symm
 rcases Nat.lt_trichotomy a b with h'|h'|h'
 ·exact (key a b h' hb h).elim
 ·exact h'
 ·exact (key b a h' ha h.symm).elim
def uJ:List Int→Int→Int
 | [],_=>0
 | c::r,x=>c+x*uJ r x
theorem pJ (D:List Int) (t x:Int):uJ (D++[t]) x=uJ D x+t*x ^ D.length:=by
 induction D with
 | nil=>simp[uJ]
 | cons a r ih =>
  rw[List.cons_append,uJ,uJ,ih,List.length_cons,Int.pow_succ]
  grind
theorem mm:∀ (l m:LN) (x:Nat),l.length=m.length→uJ (List.zipWith (fun (a b:Nat)=>(a:Int) - (b:Int)) l m) (x:Int)=(ye l x:Int) - (ye m x:Int)
 | [],[],_,_=>by simp[uJ,ye]
 | [],_::_,_,h=>by simp at h
 | _::_,[],_,h=>by simp at h
 | a::l,b::m,x,h=>by
  rw[List.zipWith_cons_cons,uJ,mm l m x (by simpa using h),ye,ye];push_cast
  grind
theorem lm {n:Nat} (hn:n<8):∀ (l:List Int) (k:Nat),k+l.length<n→((List.range n).map fun i=>nu n (i+1)*((i+1:Nat):Int) ^ k*uJ l ((i+1:Nat):Int)).sum=0
 | [],k,_=>by
  have:(fun i:Nat=>nu n (i+1)*((i+1:Nat):Int) ^ k*uJ [] ((i+1:Nat):Int))=fun _=>(0:Int):=by funext i;simp[uJ]
  rw[this];generalize List.range n=L
  induction L with
  | nil=>rfl
  | cons a r ih=>simp only[List.map_cons,List.sum_cons,ih];rfl
 | c::r,k,h=>by
  have h1:=cW n (List.mem_range.2 hn) k (List.mem_range.2 (by simp at h;omega));have h2:=lm hn r (k+1) (by simp at h;omega);have e:(fun i:Nat=>nu n (i+1)*((i+1:Nat):Int) ^ k*uJ (c::r) ((i+1:Nat):Int))=fun i=>c*(nu n (i+1)*((i+1:Nat):Int) ^ k)+nu n (i+1)*((i+1:Nat):Int) ^ (k+1)*uJ r ((i+1:Nat):Int):=by
   funext i;rw[uJ,Int.pow_succ]
   grind
  rw[e,o5,rC,h1,h2];simp
theorem adt:∀ n∈List.range 8,0<n→((List.range n).map fun i=>nu n (i+1)*((i+1:Nat):Int) ^ (n - 1)).sum=(am (n - 1):Int):=by decide
theorem ik {α:Type} (q:Int) (f:α→Int):∀ L:List α,(∀ i∈L,q ∣ f i)→q ∣ (L.map f).sum
 | [],_=>by simp
 | a::r,h=>by
  simp only[List.map_cons,List.sum_cons];exact Int.dvd_add (h a List.mem_cons_self) (ik q f r (fun i hi=>h i (List.mem_cons_of_mem _ hi)))
theorem mM {q:Nat} (hP:Pri q):∀ (n:Nat) (D:List Int),D.length=n→n<8→n<q→(∀ i,i<n→(q:Int) ∣ uJ D ((i+1:Nat):Int))→∀ d∈D,(q:Int) ∣ d
 | 0,D,h,_,_,_=>by
  rw[List.length_eq_zero_iff.1 h];simp
 | n+1,D,h,h8,hq,hz=>by
  rcases List.eq_nil_or_concat D with rfl|⟨E,t,rfl⟩
  ·simp at h
  rw[List.concat_eq_append] at *;have hE:E.length=n:=by simpa using h
  have e:(fun i:Nat=>nu (n+1) (i+1)*uJ (E++[t]) ((i+1:Nat):Int))=fun i=>nu (n+1) (i+1)*((i+1:Nat):Int) ^ 0*uJ E ((i+1:Nat):Int)+t*(nu (n+1) (i+1)*((i+1:Nat):Int) ^ (n+1 - 1)):=by
   funext i;rw[pJ,hE,Int.pow_zero,Nat.add_sub_cancel]
   grind
  have hs:=ik (q:Int) (fun i:Nat=>nu (n+1) (i+1)*uJ (E++[t]) ((i+1:Nat):Int)) (List.range (n+1)) (fun i hi=>Int.dvd_mul_of_dvd_right (hz i (List.mem_range.1 hi)));rw[e,o5,rC,lm h8 E 0 Om,adt (n+1) (List.mem_range.2 h8) Om,Int.zero_add,Nat.add_sub_cancel] at hs;have ht:(q:Int) ∣ t:=by
   have hc:Nat.Coprime q (am n):=Nat.Coprime.symm (kF hP n Om);have hs' : q ∣ am n*t.natAbs:=by
    have:=Int.natAbs_dvd_natAbs.2 hs;rw[Int.natAbs_mul,Nat.mul_comm] at this;simpa using this
   exact Int.ofNat_dvd_left.2 (Nat.Coprime.dvd_of_dvd_mul_left hc hs')
  intro d hd
  rcases List.mem_append.1 hd with hd|hd
  ·refine mM hP n E hE Om Om (fun i hi=>?_) d hd;have:=hz i Om;rw[pJ] at this;exact (Int.dvd_add_left (Int.dvd_mul_of_dvd_left ht)).1 this
  ·rw[List.mem_singleton.1 hd];exact ht
theorem dC {q:Nat} (hP:Pri q) {l m:LN} (hlm:l.length=m.length) (h8:l.length<8) (hq:l.length<q) (hl:∀ a∈l,a<q) (hm:∀ a∈m,a<q) (h:∀ i,i<l.length→ye l (i+1)%q=ye m (i+1)%q):l=m:=by
 have hz:=mM hP l.length (List.zipWith (fun (a b:Nat)=>(a:Int) - (b:Int)) l m) (by simp[hlm]) h8 hq (fun i hi=>by
  rw[mm l m _ hlm];have e:=h i hi;have h1:=tj (q:=q) (ye l (i+1));have h2:=tj (q:=q) (ye m (i+1));rw[e] at h1;have:=Int.dvd_sub h1 h2;rwa [show ∀ a b c:Int,a - c - (b - c)=a - b by intro a b c;omega] at this)
 refine List.ext_getElem hlm (fun i h1 h2=>?_);have hd:=hz ((l[i]:Int) - (m[i]:Int)) (by
  rw[List.mem_iff_getElem];exact⟨i,by simp;omega,by simp⟩)
 have ha:=hl l[i] (List.getElem_mem h1);have hb:=hm m[i] (List.getElem_mem h2);obtain⟨c,hc⟩:=hd;have hc0:c=0:=by
  rcases Int.lt_trichotomy c 0 with h'|h'|h'
  ·have:(q:Int)*c≤(q:Int)*(-1):=Int.mul_le_mul_of_nonneg_left Om Om;omega
  ·exact h'
  ·have:(q:Int)*1≤(q:Int)*c:=Int.mul_le_mul_of_nonneg_left Om Om;omega
 subst hc0;omega
section
variable {p q g h:Nat} {f sec:Int} {N:LP} {ep d x:Nat} {l m:LN}
theorem acA {α:Type} {f g:α→Bool}:∀ {L:List α},(∀ i∈L,f i=g i)→L.all f=L.all g
 | [],_=>rfl
 | a::r,h=>by rw[List.all_cons,List.all_cons,h a List.mem_cons_self,acA (fun i hi=>h i (List.mem_cons_of_mem _ hi))]
theorem aeh:mi (fun v x=>decide (v=exN p g x)) (dVs p q g l N.length) (shL q m N.length)=(List.range N.length).all fun i=>decide (exN p g (shN q l i)=exN p g (shN q m i)):=by
 unfold mi;rw[show (dVs p q g l N.length).length=N.length by simp[dVs]];refine acA (fun i hi=>?_);have hi':=List.mem_range.1 hi;unfold dVs shL;rw[List.getElem?_map,List.getElem?_map,List.getElem?_range hi'];rfl
theorem aac (hP:Pri q) (hS:y5 p q g h f sec N=true) (hlen:(l.length:Int)=f+sec) (hall:uz q l=true) :
  aee p q g h f sec N (dVs p q g l N.length) m=decide (m=l):=by
 obtain⟨hkg,hks,hn8,hnq,hf,hsec⟩:=tT hS;obtain⟨hg,hg1⟩:=li hkg;have hcn:l.length≤N.length:=by
  unfold y5 at hS;simp only[Bool.and_eq_true,decide_eq_true_eq] at hS;omega
 have h1:=hP.1;unfold aee;rw[hS,aeh]
 by_cases e:m=l
 ·subst e;rw[hlen,hall];simp[dVs]
 ·rw[decide_eq_false e]
  by_cases h2:(m.length:Int)=f+sec∧uz q m=true
  ·have hml:l.length=m.length:=by omega
   have hne:¬ ∀ i,i<l.length→ye l (i+1)%q=ye m (i+1)%q:=fun hh=>e (dC hP hml Om Om (vW hall).2 (vW h2.2).2 hh).symm;obtain⟨i,hi⟩:=Classical.not_forall.1 hne;obtain⟨hi,hne⟩:=Classical.not_imp.1 hi;have:((List.range N.length).all fun i=>decide (exN p g (shN q l i)=exN p g (shN q m i)))=false:=by
    rw[List.all_eq_false];refine⟨i,List.mem_range.2 Om,?_⟩;rw[pL hg,pL hg,decide_eq_true_eq];exact fun hh=>hne (adA hP hg hg1 (Nat.mod_lt _ Om) (Nat.mod_lt _ Om) hh)
   rw[this];simp
  ·have:(decide ((m.length:Int)=f+sec) && uz q m)=false:=by
    rw[Bool.and_eq_false_iff]
    by_cases h3:(m.length:Int)=f+sec
    ·refine .inr ?_;cases h4:uz q m with
     | false=>rfl
     | true=>exact absurd ⟨h3,h4⟩ h2
    ·exact .inl (decide_eq_false h3)
   rw[this];simp
end
section
variable {p q g:Nat} {N:LP} {ep d x n:Nat} {l:LN}
theorem afD (hp:p<ze):∀ a∈dVs p q g l n,a<ze:=fun a ha=>by
 unfold dVs at ha;obtain⟨i,_,rfl⟩:=List.mem_map.1 ha;exact ub hp
theorem afI (hp:p<ze):∀ a∈dYs p q l N n,a<ze:=fun a ha=>by
 unfold dYs at ha;obtain⟨i,_,rfl⟩:=List.mem_map.1 ha;exact ub hp
theorem af9 (hq:q<ze) (h0:0<q):zZ (dPs p q g l N ep d x n):=fun a ha=>by
 unfold dPs at ha;obtain⟨i,_,rfl⟩:=List.mem_map.1 ha;exact agz h0 hq
theorem aca (hq:q<ze) (h0:0<q):(dSg p q g l N ep d x n).1<ze∧(dSg p q g l N ep d x n).2<ze:=by
 exact ago h0 hq
end
def vu (n:Nat):Bool:=decide (2≤n) && decide (n<4294967296) && (List.range n).all fun e=>decide (e<2) || decide (n<e*e) || decide (n%e≠0)
theorem qX (n:Nat):∀ m,n<m*m→∃ d,n<d*d∧∀ e,e<d→e*e≤n
 | 0,h=>by simp at h
 | m+1,h=>by
  rcases Nat.lt_or_ge n (m*m) with h1|h1
  ·exact qX n m h1
  ·exact⟨m+1,h,fun e he=>Nat.le_trans (Nat.mul_le_mul (by omega:e≤m) (by omega:e≤m)) h1⟩
theorem nH {n:Nat} (h:vu n=true):Pri n:=by
 unfold vu at h;simp only[Bool.and_eq_true,decide_eq_true_eq,List.all_eq_true,Bool.or_eq_true,List.mem_range] at h;obtain⟨⟨h2,_⟩,ha⟩:=h;obtain⟨d,hd,hs⟩:=qX n n (by have:=Nat.mul_le_mul_right n h2;omega);refine eu h2 hd (fun e he1 he2=>?_);have he:=hs e he2;have hen:e<n:=by have:=Nat.mul_le_mul_right e he1;omega
 rcases ha e hen with (h|h)|h
 ·omega
 ·omega
 ·exact h
theorem fY {n d:Nat} (h2:2≤n) (h3:n<4294967296) (hd:n<d*d) (h:∀ e,2≤e→e<d→n%e≠0):vu n=true:=by
 unfold vu;simp only[Bool.and_eq_true,decide_eq_true_eq,List.all_eq_true,Bool.or_eq_true,List.mem_range];refine⟨⟨h2,h3⟩,fun e _=>?_⟩
 rcases Nat.lt_or_ge e 2 with h1|h1
 ·exact .inl (.inl h1)
 ·rcases Nat.lt_or_ge e d with h4|h4
  ·exact .inr (h e h1 h4)
  ·exact .inl (.inr (Nat.lt_of_lt_of_le hd (Nat.mul_le_mul h4 h4)))
theorem aaI {n d:Nat} (h2:2≤d) (hd:d*d≤n) (h:n%d=0):vu n=false:=by
 cases hb:vu n with
 | false=>rfl
 | true =>
  exfalso;unfold vu at hb;simp only[Bool.and_eq_true,decide_eq_true_eq,List.all_eq_true,Bool.or_eq_true,List.mem_range] at hb;have hdn:d<n:=by have:=Nat.mul_le_mul_right d h2;omega
  rcases hb.2 d hdn with (h1|h1)|h1
  ·omega
  ·omega
  ·exact h1 h
theorem nI {n:Nat} (h:n<2∨4294967296≤n):vu n=false:=by
 unfold vu
 rcases h with h|h
 ·rw[decide_eq_false (show ¬ 2≤n by omega)];rfl
 ·rw[decide_eq_false (show ¬ n<4294967296 by omega)];simp
def rz (p q:Nat):Bool:=decide (wd 0 p<4294967296) && decide (1<wd 0 q) && decide (p=wd 0 p) && decide (q=wd 0 q) && vu (wd 0 p) && vu (wd 0 q) && decide ((wd 0 p - 1)%wd 0 q=0)
theorem gy {p q:Nat} (h:rz p q=true):p<4294967296∧q<4294967296∧Pri p∧Pri q:=by
 unfold rz at h;simp only[Bool.and_eq_true,decide_eq_true_eq] at h;obtain⟨⟨⟨⟨⟨⟨h1,h2⟩,h3⟩,h4⟩,h5⟩,h6⟩,h7⟩:=h;rw[← h3] at h1 h5;rw[← h4] at h6;refine⟨h1,?_,nH h5,nH h6⟩;unfold vu at h6;simp only[Bool.and_eq_true,decide_eq_true_eq] at h6;exact h6.1.2
def lq (q:Nat) (k:Nat × Nat):Bool:=decide (k.1≠0) && decide (k.2≠0) && decide (k.1<q) && decide (k.2<q)
def csK (p g hh:Nat) (k:Nat × Nat):Nat × Nat:=(exN p g k.1,exN p hh k.2)
def csN (p g a:Nat) (ks:LP):List (Nat × Nat):=ks.map (csK p g (exN p g a))
def m4 (p q g a:Nat) (f sec:Int) (ks:LP):Bool :=
 yB p g && decide (a≠0) && decide (ks.length≤7) && rz p q && (ks.all (lq q) && (decide (ks=[]) || yB p (exN p g a))) && y5 p q g (exN p g a) f sec (csN p g a ks)
theorem yW (p g a:Nat) (ks:LP):(csN p g a ks).length=ks.length:=by simp[csN]
theorem oW {p g a i:Nat} {ks:LP} {k:Nat × Nat} (h:ks[i]?=some k):(csN p g a ks)[i]?=some (csK p g (exN p g a) k):=by unfold csN;rw[List.getElem?_map,h];rfl
theorem sL {p g a:Nat} {ks:LP} (hp:p<ze):zZ (csN p g a ks):=fun x hx=>by
 obtain⟨k,_,rfl⟩:=List.mem_map.1 hx;exact⟨ub hp,ub hp⟩
structure sc (p q g a:Nat) (f sec:Int) (ks:LP):Prop where
 p32:p<4294967296
 q32:q<4294967296
 pri:Pri q
 set:y5 p q g (exN p g a) f sec (csN p g a ks)=true
 scr:∀ k∈ks,k.1<q∧k.2<q
 len:ks.length≤7
theorem ef {p q g a:Nat} {f sec:Int} {ks:LP} (h:m4 p q g a f sec ks=true):sc p q g a f sec ks:=by
 unfold m4 at h;simp only[Bool.and_eq_true,decide_eq_true_eq,List.all_eq_true] at h;obtain⟨⟨⟨⟨⟨_,_⟩,h3⟩,h4⟩,h5,_⟩,h6⟩:=h;obtain⟨g1,g2,_,g4⟩:=gy h4;refine⟨g1,g2,g4,h6,fun k hk=>?_,h3⟩;have:=h5 k hk;unfold lq at this;simp only[Bool.and_eq_true,decide_eq_true_eq] at this;exact⟨this.1.2,this.2⟩
end Sx
end
section
open Go Go.RowKit Go.BigFrame
namespace Sx
attribute [local irreducible] DQ WC WI WO WT WX wd
section
variable (p q g h:Nat) (f sec:Int) (pN pV pY pP:Option Addr) (cN cV cY cP:Nat) (N:LP) (ep d:Nat) (V Y:LN) (Pr:LP) (sC sS:Nat)
theorem ct (r:Option Int) (hAsk:∀ gS gD gg gn gi,ab9 (CkR p q g h f sec pN pV pY pP cN cV cY cP N ep d V Y Pr sC sS gS gD gg gn gi)
   [(78,[pt gS]),(80,[pt gS,pt gD,pt gn,pt gi]),(82,[pt gg,pt gD,pt gS]),(84,[pt gD,pt gg,pt gS]),(86,[pt gg,pt gS,pt gD])] r) :
  Fn Tryz.prog 32 [stV p q g h f sec (.slice pN N.length cN),dlV ep d (.slice pV V.length cV) (.slice pY Y.length cY) (.slice pP Pr.length cP) sC sS]
   (fun w=>(RdF ya (.slice pN N.length cN) N w∧RdF zc (.slice pV V.length cV) V w∧RdF zc (.slice pY Y.length cY) Y w∧RdF pfC (.slice pP Pr.length cP) Pr w)∧uY w) (Is (.int .i64 (r.getD 0))):=by
 refine Fn.enter Tryz.func32 rfl rfl rfl ?_;intro w hw;obtain⟨⟨hN,hV,hY,hP⟩,hH⟩:=hw
 repeat (first|refine Tk ?_|intro _|exact Tz)
 rename_i gS gD;refine WC.mainA [5,6,7,8] [(0,pt gS),(1,vV p q g h),(2,.pointer (some ⟨gS,18,none⟩)),(3,.slice pN N.length cN),(4,.int .i64 (N.length:Int))] Dtt (fun A hA=>?_);refine WT.given [(2,pt gS),(3,pt gD),(4,.int .i64 0)] [⟨gS,36,stC p q g h f sec (.slice pN N.length cN)⟩] Kr (Tlv.a (Tlv.a (Tlv.a (Tlv.a (Tlv.a (Tlv.nil)))) (h:=by refine Qux.does ?_;exact zw (vs:=yI p q g h)))) (fun hc hT=>?_)
 suffices hS480:∀ q5 q6,A [8,7,6,5] [(5,pt q5),(6,pt q6),(2,pt gS),(3,pt gD),(4,.int .i64 0)] [⟨q5,26,yI p q g h⟩,⟨q6,3,[.int .i64 (N.length:Int)]⟩,⟨gD,51,dlC ep d (.slice pV V.length cV) (.slice pY Y.length cY) (.slice pP Pr.length cP) sC sS⟩,⟨gS,36,stC p q g h f sec (.slice pN N.length cN)⟩] by
  have hS224:∀ q5 q6,A [7,6,5] [(5,pt q5),(6,pt q6),(2,pt gS),(3,pt gD),(4,.int .i64 0)] [⟨q5,26,yI p q g h⟩,⟨q6,3,[.int .i64 0]⟩,⟨gD,51,dlC ep d (.slice pV V.length cV) (.slice pY Y.length cY) (.slice pP Pr.length cP) sC sS⟩,⟨gS,36,stC p q g h f sec (.slice pN N.length cN)⟩]:=by
   intro q5 q6;refine (hA _ _ _).2 (WT.step [8] Dtt hc hT ⟨⟨_,rfl,?_⟩,trivial⟩)
   ·refine Tw ?_;exact WT.go [] hA (hS480 q5 q6)
  have hS96:∀ q5 q6,A [6,5] [(5,pt q5),(6,pt q6),(2,pt gS),(3,pt gD),(4,.int .i64 0)] [⟨q5,26,yI 0 0 0 0⟩,⟨q6,3,[.int .i64 0]⟩,⟨gD,51,dlC ep d (.slice pV V.length cV) (.slice pY Y.length cY) (.slice pP Pr.length cP) sC sS⟩,⟨gS,36,stC p q g h f sec (.slice pN N.length cN)⟩]:=by
   intro q5 q6;refine (hA _ _ _).2 (WT.step [7] Dtt hc hT ⟨⟨_,rfl,?_⟩,trivial⟩)
   ·refine Tw ?_;exact WT.go [] hA (hS224 q5 q6)
  have hS32:∀ q5,A [5] [(5,pt q5),(2,pt gS),(3,pt gD),(4,.int .i64 0)] [⟨q5,26,yI 0 0 0 0⟩,⟨gD,51,dlC ep d (.slice pV V.length cV) (.slice pY Y.length cY) (.slice pP Pr.length cP) sC sS⟩,⟨gS,36,stC p q g h f sec (.slice pN N.length cN)⟩]:=by
   intro q5;refine (hA _ _ _).2 (WT.step [6] Dtt hc hT ⟨⟨_,rfl,?_⟩,trivial⟩)
   ·(refine WO.autoM (k:=?_);intro q6);exact WT.go [(6,pt q6)] hA (hS96 q5 q6)
  have hS64:∀ q6,A [6] [(6,pt q6),(2,pt gS),(3,pt gD),(4,.int .i64 0)] [⟨q6,3,[.int .i64 0]⟩,⟨gD,51,dlC ep d (.slice pV V.length cV) (.slice pY Y.length cY) (.slice pP Pr.length cP) sC sS⟩,⟨gS,36,stC p q g h f sec (.slice pN N.length cN)⟩]:=by
   intro q6;refine (hA _ _ _).2 (WT.step [5] Dtt hc hT ⟨⟨_,rfl,?_⟩,trivial⟩)
   ·(refine WO.autoM (k:=?_);intro q5);exact WT.go [(5,pt q5)] hA (hS96 q5 q6)
  have hS0:A [] [(2,pt gS),(3,pt gD),(4,.int .i64 0)] [⟨gD,51,dlC ep d (.slice pV V.length cV) (.slice pY Y.length cY) (.slice pP Pr.length cP) sC sS⟩,⟨gS,36,stC p q g h f sec (.slice pN N.length cN)⟩]:=by
   refine (hA _ _ _).2 (WT.step [5,6] Dtt hc hT ⟨⟨_,rfl,?_⟩,⟨_,rfl,?_⟩,trivial⟩)
   ·(refine WO.autoM (k:=?_);intro q5);exact WT.go [(5,pt q5)] hA (hS32 q5)
   ·(refine WO.autoM (k:=?_);intro q6);exact WT.go [(6,pt q6)] hA (hS64 q6)
  exact WT.less ((hA _ _ _).1 hS0) Dtt Kle.a (by repeat (first|exact Lle.nil|exact Lle.same|refine Lle.c ?_))
 intro q5 q6;refine (hA _ _ _).2 (WT.fin [5,6,7,8] 6 hc rfl Kr ?_);clear hc hT hA
 repeat (first|refine WO.does (zH rfl rfl) ?_|refine Tj ?_|intro _|refine Tc ?_|exact Tz)
 rename_i gi
 repeat (first|refine WO.does (zH rfl rfl) ?_|refine Tj ?_|intro _|refine Tc ?_|exact Tz)
 refine WO.makes (zh (cs:=[fV (78,[pt gS]),fV (80,[pt gS,pt gD,pt q6,pt gi]),fV (82,[pt q5,pt gD,pt gS]),fV (84,[pt gD,pt q5,pt gS]),fV (86,[pt q5,pt gS,pt gD])]) rfl Dtt rfl) ?_;intro gR;refine WO.calls (fs:=[]) (cs:=[]) (acJ (R:=CkR p q g h f sec pN pV pY pP cN cV cY cP N ep d V Y Pr sC sS gS gD q5 q6 gi) (fun w w' k hm=>CkR.mod (k:=k) (hm:=hm)) _ r gR 5 Sm (hAsk gS gD q5 q6 gi)) rfl rfl rfl (fun w1 hm=>⟨Hs.sg hm,⟨Hs.sg hm,Hs.sg hm,Hs.sg hm,Hs.sg hm,Hs.sg hm,hN.mod hm.mod,hV.mod hm.mod,hY.mod hm.mod,hP.mod hm.mod⟩⟩) (fun v N1 hv=>?_);cases r with
 | none =>
  obtain⟨rfl,rfl⟩:=hv
  try dsimp only[List.cons_append,List.nil_append]
  repeat (first|refine Tj ?_|intro _|refine WO.acall (hc:=aeL) (k:=?_)|refine Tc ?_|exact Tz)
  done
 | some e =>
  obtain⟨gE,rfl,rfl⟩:=hv
  try dsimp only[List.cons_append,List.nil_append]
  repeat (first|refine Tj ?_|intro _|refine WO.acallR (hc:=acN gE e) (hR:=fun w1 hm=>⟨hH.mod hm.mod Sm,Hs.sg hm⟩) (k:=?_)|refine Tc ?_|exact Tz)
  done
end
end Sx
end
section
open Go Go.RowKit Go.BigFrame
namespace Sx
section
variable (p q g h:Nat) (f sec:Int) (pN pV pY pP:Option Addr) (cN cV cY cP:Nat) (N:LP) (ep d:Nat) (V Y:LN) (Pr:LP) (sC sS:Nat)
theorem fL {p q g h:Nat} {f sec:Int} {N:LP} {c:Nat} (hs:y5 p q g h f sec N=true) (hc:f+sec=(c:Int)):c≤N.length:=by
 unfold y5 at hs;simp only[Bool.and_eq_true,decide_eq_true_eq] at hs;omega
theorem adj (hp:p<ze) (hq:q<ze) (hg:g<ze) (hh:h<ze) (hN:zZ N) (hNl:N.length≤100)
  (hf1 : -9223372036854775808≤f) (hf2:f≤9223372036854775807) (hs1 : -9223372036854775808≤sec) (hs2:sec≤9223372036854775807)
  (hd:d<256) (hV:∀ a∈V,a<ze) (hY:∀ a∈Y,a<ze) (hPr:zZ Pr) (hVl:V.length≤100) (hYl:Y.length≤100) (hPl:Pr.length≤100) (hsC:sC<ze) (hsS:sS<ze) (gS gD gg gn gi:Nat) :
  ab9 (CkR p q g h f sec pN pV pY pP cN cV cY cP N ep d V Y Pr sC sS gS gD gg gn gi)
   [(78,[pt gS]),(80,[pt gS,pt gD,pt gn,pt gi]),(82,[pt gg,pt gD,pt gS]),(84,[pt gD,pt gg,pt gS]),(86,[pt gg,pt gS,pt gD])] (ckE p q g h f sec N ep d V Y Pr sC sS):=by
 have h2:=ahE p q g h f sec pN pV pY pP cN cV cY cP N ep d V Y Pr sC sS gS gD gg gn gi hp hq hg hh hN Om hf1 hf2 hs1 hs2;unfold ckE;cases e0:y5 p q g h f sec N with
 | false =>
  rw[e0] at h2;rw[if_neg Dtt] at h2 ⊢;exact .hit inferInstance h2
 | true =>
 rw[e0,if_pos rfl] at h2;rw[if_pos rfl];refine .go inferInstance h2 ?_;obtain⟨hn1,hn7,hnq,hf0,hs1',hfs5,hgm,hhm⟩:=zS e0;have h3:=ag0 p q g h f sec pN pV pY pP cN cV cY cP N ep d V Y Pr sC sS gS gD gg gn gi hp hq hd hNl hn1 Om Om Om hV hY;cases e1:shB p q N d V Y Pr with
 | false =>
  rw[e1] at h3;rw[if_neg Dtt] at h3 ⊢;exact .hit inferInstance h3
 | true =>
 rw[e1,if_pos rfl] at h3;rw[if_pos rfl];refine .go inferInstance h3 ?_;unfold shB at e1;simp only[Bool.and_eq_true,decide_eq_true_eq] at e1;obtain⟨⟨⟨⟨⟨n1,n2⟩,n3⟩,n4⟩,n5⟩,n6⟩:=e1;obtain⟨hd1,hdn⟩:=si n1;have hZ:ad6 p V:=⟨hV,fun z hz=>vj (List.all_eq_true.1 n5 z hz)⟩;obtain⟨c,hc⟩ : ∃ c:Nat,f+sec=(c:Int):=⟨(f+sec).toNat,by omega⟩;have hcN:=fL e0 hc;have h4:=ahh p q g h f sec pN pV pY pP cN cV cY cP N ep d V Y Pr sC sS gS gD gg gn gi N.length c rfl hc n2 hn1 hn7 Om hcN Om hq hp (y7 hgm).1 hZ;rw[show (f+sec).toNat=c by omega];cases e2:duB p q N.length c V with
 | false =>
  rw[e2] at h4;rw[if_neg Dtt] at h4 ⊢;exact .hit inferInstance h4
 | true =>
 rw[e2,if_pos rfl] at h4;rw[if_pos rfl];refine .go inferInstance h4 ?_;have h5:=ahs p q g h f sec pN pV pY pP cN cV cY cP N ep d V Y Pr sC sS gS gD gg gn gi Om Om Om Om hN hV hY hPr hp hq hg;cases e3:acq p q g N V Y Pr with
 | false =>
  rw[e3] at h5;rw[if_neg Dtt] at h5 ⊢;exact .hit inferInstance h5
 | true =>
 rw[e3,if_pos rfl] at h5;rw[if_pos rfl];refine .go inferInstance h5 ?_;obtain⟨k,hk⟩ : ∃ z,N[d - 1]?=some z:=⟨_,List.getElem?_eq_getElem Om⟩;have hkm:=hN _ (List.mem_of_getElem? hk);have h6:=ahq p q g h f sec pN pV pY pP cN cV cY cP N ep d V Y Pr sC sS gS gD gg gn gi k hk hd1 hd (by rintro rfl;simp at n2;omega) (by rintro rfl;simp at n3;omega) (by rintro rfl;simp at n4;omega) Om Om Om hkm.1 hkm.2 hp hq hg hsC hsS hgm (zI _ _) (yX _ _);rw[hk,show (some k).getD (0,0)=k from rfl];cases e4:rX p q g k.1 sC sS (yN ep d V Y Pr) with
 | false =>
  rw[e4] at h6;rw[if_neg Dtt] at h6 ⊢;exact .hit inferInstance h6
 | true =>
 rw[e4,if_pos rfl] at h6;rw[if_pos rfl];exact .go inferInstance h6 .nil
end
section
variable (p q g h:Nat) (f sec:Int) (pN pV pY pP:Option Addr) (cN cV cY cP:Nat) (N:LP) (ep d:Nat) (V Y:LN) (Pr:LP) (sC sS:Nat)
theorem rO (hp:p<ze) (hq:q<ze) (hg:g<ze) (hh:h<ze) (hN:zZ N) (hNl:N.length≤100)
  (hf1 : -9223372036854775808≤f) (hf2:f≤9223372036854775807) (hs1 : -9223372036854775808≤sec) (hs2:sec≤9223372036854775807)
  (hd:d<256) (hV:∀ a∈V,a<ze) (hY:∀ a∈Y,a<ze) (hPr:zZ Pr) (hVl:V.length≤100) (hYl:Y.length≤100) (hPl:Pr.length≤100) (hsC:sC<ze) (hsS:sS<ze) :
  Fn Tryz.prog 32 [stV p q g h f sec (.slice pN N.length cN),dlV ep d (.slice pV V.length cV) (.slice pY Y.length cY) (.slice pP Pr.length cP) sC sS]
   (fun w=>(RdF ya (.slice pN N.length cN) N w∧RdF zc (.slice pV V.length cV) V w∧RdF zc (.slice pY Y.length cY) Y w∧RdF pfC (.slice pP Pr.length cP) Pr w)∧uY w) (Is (.int .i64 ((ckE p q g h f sec N ep d V Y Pr sC sS).getD 0))) :=
 ct p q g h f sec pN pV pY pP cN cV cY cP N ep d V Y Pr sC sS _ (fun gS gD gg gn gi=>adj p q g h f sec pN pV pY pP cN cV cY cP N ep d V Y Pr sC sS hp hq hg hh hN hNl hf1 hf2 hs1 hs2 hd hV hY hPr hVl hYl hPl hsC hsS gS gD gg gn gi)
end
end Sx
end
end Go.Proofs.YtiaibpcaloigkaaGreatDoor
