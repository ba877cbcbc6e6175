/- Part 45 of the proof. -/
import Derived.Test.YtiiefkchpicncaaGreatDoorA44
import Derived.Test.YtiiefkchpicncaaGreatDoorA42
set_option linter.unusedSimpArgs false
set_option linter.unusedVariables false
set_option maxHeartbeats 8000000
namespace Go.Proofs.YtiiefkchpicncaaGreatDoor
section
open Go Go.RowKit Go.BigFrame
namespace Sx
abbrev ci:Value:=.iface 304 (.agg #[.pointer (some ⟨3,161,none⟩)])
abbrev oF:World→Prop:=fun w=>Seg w 0 0 [ci]
theorem acu (ge gt:Nat):FnL Tryz.prog 133 [.iface 167 (pt ge),.iface 220 (pt gt)] [⟨gt,167,[.pointer none]⟩] oF (fun v N=>v=.bool true∧N=[⟨gt,167,[pt ge]⟩]):=by
 intro w hok hnd hw;have hg:=(hok ⟨gt,167,[.pointer none]⟩ (by simp)).row (show (167:Nat)≠0 by decide);have hlt:=(hok ⟨gt,167,[.pointer none]⟩ (by simp)).lt;have hc:=(hok ⟨gt,167,[.pointer none]⟩ (by simp)).cell 0;dsimp only at hg hlt hc;refine (aen ⟨ge,0,none⟩ ⟨gt,0,none⟩ (.pointer none) w (hw 0 _ rfl) (by rw[hc];rfl) (by unfold World.frozen?;rw[hg];rfl)).mono ?_;rintro e w' ⟨rfl,rfl⟩;refine⟨.bool true,_,rfl,?_,rfl,rfl⟩;have h0:Me w [gt] [⟨gt,167,[.pointer none]⟩] w:=⟨.refl _ _,hok,fun e he=>.inr (List.mem_map.2 ⟨e,he,rfl⟩),hnd⟩;generalize hW:(((w.alloc _).alloc _).alloc _).alloc _=W;have hB:Below w.heap.size w W:=by
  subst hW;exact ((((Below.refl w.heap.size w).alloc (Nat.le_refl _) _).alloc (by simp) _).alloc (by simp;omega) _).alloc (by simp;omega) _
 have h1:=h0.below hB;have hgW:W.heap[gt]?=some (.cells #[.pointer none] 167 (0,0)):=(hB.block gt hlt).trans hg;refine h1.write (g:=gt) (t:=167) (cs:=[.pointer none]) (cs':=[pt ge]) .here rfl rfl rfl (by simp[World.setCell]) (fun k _ hk=>by simp[World.setCell,Array.getElem?_modify,hk,Ne.symm hk]) ?_;simp[World.setCell,Array.getElem?_modify,hgW]
theorem acZ (v:Value):Fn Tryz.prog 133 [.nilIface,v] Tr (Is (.bool false)):=.of fun w=>(adR v w).mono (by rintro e w' ⟨rfl,rfl⟩;exact⟨rfl,Below.refl _ _⟩)
attribute [local irreducible] wd DQ WO WC WX WI
theorem ab4:Fn Tryz.prog 75 [.nilIface] Tr (Is (.int .i64 0)):=by
 have hA:=acZ;refine Fn.enter Tryz.func75 rfl rfl rfl ?_;intro w hw
 repeat (first|refine WO.does (vo (by kernel_rfl) rfl) ?_|refine Ta ?_|(refine Tm ?_;intro _)|refine WO.acall (hc:=hA _) (k:=?_)|refine Tc ?_|exact Tz)
 done
theorem ab6 (ge:Nat) (e:Int):Fn Tryz.prog 75 [.iface 167 (pt ge)] (fun w=>oF w∧Seg w ge 0 [.int .i64 e]) (Is (.int .i64 e)):=by
 have hA:=acu ge;refine Fn.enter Tryz.func75 rfl rfl rfl ?_;intro w hw;obtain⟨hwH,hwE⟩:=hw
 repeat (first|refine WO.does (vo (by kernel_rfl) rfl) ?_|refine Ta ?_|(refine Tm ?_;intro _)|refine Tc ?_|exact Tz)
 refine WO.callsL (hc:=hA _) (hp:=.cons Pk.a .nil) (fun w' hm=>hwH.mod hm.mod (by simp)) (fun v N hv=>?_);obtain⟨rfl,rfl⟩:=hv
 try dsimp only[List.cons_append,List.nil_append]
 repeat (first|refine WO.does (zl (hs:=hwE)) ?_|refine Ta ?_|(refine Tm ?_;intro _)|refine Tc ?_|exact Tz)
 done
theorem nW (e:Int):Fn Tryz.prog 78 [.int .i64 e,.bool true] Tr (Is .nilIface):=by
 refine Fn.enter Tryz.func78 rfl rfl rfl ?_;intro w hw
 repeat (first|refine Tw ?_|(refine Tm ?_;intro _)|exact Tz)
 done
theorem nb (e:Int):Fn Tryz.prog 78 [.int .i64 e,.bool false] Tr (Ex (fun s=>.iface 167 (pt (s 0))) (fun s=>[⟨s 0,169,[.int .i64 e]⟩]) (fun _=>True)):=by
 refine Fn.enter Tryz.func78 rfl rfl rfl ?_;intro w hw
 repeat (first|refine WO.does (vo (by kernel_rfl) rfl) ?_|refine Ta ?_|(refine Tm ?_;intro _)|refine Tc ?_|exact Tz)
 rename_i gE;exact WX.ret1 rfl (by exact zo rfl) [⟨gE,169,[.int .i64 e]⟩] (Lle.c Lle.nil) ⟨fun _=>gE,rfl,rfl,trivial⟩
end Sx
end
section
open Go Go.RowKit Go.BigFrame
namespace Sx
section
variable {P:Program} {w0:World} {gs:List Nat} {K:List (Nat × Value)} {L:List Ent}
theorem np {x y:Operand} {t yt ty u:TypeId} {v:Value} (hx:ev K x=some (.iface u v)) (hy:ev K y=some .nilIface) (hr:∀ w,(binOp .neq t (.iface u v) .nilIface).run P w=.ok (.bool true) w) (hg:∀ w,(eqGuard .neq t x y (.iface u v) .nilIface).run P w=.ok () w):Does P w0 gs K L (.binOp .neq t x y yt) ty (.bool true):=by
 intro ac w hk _ o ho _;simp only[execOp,ho,hk.eval hx,hk.eval hy,Sem.run_bind,hg,Result.andThen_ok,hr,Sem.run_pure]
theorem nR {x y:Operand} {t yt ty:TypeId} (hx:ev K x=some .nilIface) (hy:ev K y=some .nilIface) (hr:∀ w,(binOp .neq t .nilIface .nilIface).run P w=.ok (.bool false) w) (hg:∀ w,(eqGuard .neq t x y .nilIface .nilIface).run P w=.ok () w):Does P w0 gs K L (.binOp .neq t x y yt) ty (.bool false):=by
 intro ac w hk _ o ho _;simp only[execOp,ho,hk.eval hx,hk.eval hy,Sem.run_bind,hg,Result.andThen_ok,hr,Sem.run_pure]
end
theorem lD (v:Value) (w:World):(binOp .neq 161 (.iface 167 v) .nilIface).run Tryz.prog w=.ok (.bool true) w:=by kernel_rfl
theorem lL (w:World):(binOp .neq 161 .nilIface .nilIface).run Tryz.prog w=.ok (.bool false) w:=by kernel_rfl
theorem qu (x:Operand) (v:Value) (w:World):(eqGuard .neq 161 x (.const .nilIface) (.iface 167 v) .nilIface).run Tryz.prog w=.ok () w:=by kernel_rfl
theorem ql (w:World):(eqGuard .neq 161 (.tmp 14) (.const .nilIface) .nilIface .nilIface).run Tryz.prog w=.ok () w:=by kernel_rfl
def aQ:Option Int→Value→List Ent→Prop
 | none=>fun v N=>v=.nilIface∧N=[]
 | some e=>fun v N=>∃ g,v=.iface 167 (pt g)∧N=[⟨g,169,[.int .i64 e]⟩]
abbrev fV (x:Nat × List Value):Value:=.func (.func x.1) #[] x.2.toArray
inductive aaR (R:World→Prop):List (Nat × List Value)→Option Int→Prop
 | nil:aaR R [] none
 | hit {f:Nat} {caps:List Value} {rest:List (Nat × List Value)} {e:Int}:Cal Tryz.prog f→Fn Tryz.prog f caps R (aQ (some e))→aaR R ((f,caps)::rest) (some e)
 | go {f:Nat} {caps:List Value} {rest:List (Nat × List Value)} {r:Option Int}:Cal Tryz.prog f→Fn Tryz.prog f caps R (aQ none)→aaR R rest r→aaR R ((f,caps)::rest) r
theorem vh (e:Int) (b:Bool):Fn Tryz.prog 78 [.int .i64 e,.bool b] Tr (aQ (if b then none else some e)):=by
 cases b with
 | true=>exact fun w hw=>(nW e w hw).mono (by rintro en w1 ⟨v,N,h1,h2,h3,h4⟩;exact⟨v,[],h1,h2,j2.nil _ _,h4,rfl⟩)
 | false=>exact fun w hw=>(nb e w hw).mono (by rintro en w' ⟨v,N,h1,h2,h3,s,h4,h5,_⟩;exact⟨v,N,h1,h2,h3,s 0,h4,h5⟩)
attribute [local irreducible] wd DQ WO WC WX WI
theorem ac9 {R:World→Prop} (hR:∀ w w',R w→Mod [] w w'→R w') (fs:List (Nat × List Value)) (r:Option Int) (gR c:Nat) (hn:fs.length≤100) (hA:aaR R fs r) :
  Fn Tryz.prog 76 [.slice (some ⟨gR,0,none⟩) fs.length c] (fun w=>Seg w gR 0 (fs.map fV)∧R w) (aQ r):=by
 refine Fn.enter Tryz.func76 rfl rfl rfl ?_;intro w hw;obtain⟨hwF,hwR⟩:=hw
 repeat (first|refine Tw ?_|(refine Tm ?_;intro _)|exact Tz)
 refine WC.loopI (σ:=Nat) (fun i=>i≤fs.length∧aaR R (fs.drop i) r) (fun i=>[(6,.slice (some ⟨gR,0,none⟩) fs.length c),(7,.int .i64 (fs.length:Int)),(8,.int .i64 (i:Int))]) (fun _=>[]) (fun i=>fs.length - i) 0 (fun i hi=>?_) ⟨Nat.zero_le _,by simpa using hA⟩
 try dsimp only at hi ⊢
 obtain⟨hi,hAi⟩:=hi
 by_cases hlt:i<fs.length
 ·obtain⟨⟨f,caps⟩,hx⟩ : ∃ y,fs[i]?=some y:=⟨_,List.getElem?_eq_getElem hlt⟩;have hd:fs.drop i=(f,caps)::fs.drop (i+1):=by
   obtain⟨h1,h2⟩:=List.getElem?_eq_some_iff.1 hx;rw[List.drop_eq_getElem_cons hlt,h2]
  rw[hd] at hAi;have hcx:(fs.map fV)[0+i*1 - 0]?=some (fV (f,caps)):=by simp[hx]
  have hadd2:IntKind.i64.wrap ((i:Int)+1)=((i+1:Nat):Int):=zn Om Om Om
  repeat (first|refine Tw ?_|(refine Tm ?_;intro _)|exact Tz)
  refine WC.dT rfl Om ?_
  repeat (first|refine WO.does (zc (o':=0+i*1) rfl rfl hlt rfl) ?_|refine WO.does (zl (v:=fV (f,caps)) (hs:=hwF) (hle:=Nat.zero_le _) (hc:=hcx)) ?_|refine Ta ?_|(refine Tm ?_;intro _)|refine Tc ?_|exact Tz)
  cases hAi with
  | hit hCal hF =>
   refine WO.calls (fs:=[]) (cs:=caps) hF rfl rfl (by simp) (fun w1 hm=>hR _ _ hwR hm.mod) (fun v N hv=>?_);obtain⟨gE,rfl,rfl⟩:=hv
   try dsimp only[List.cons_append,List.nil_append]
   repeat (first|refine WO.does (np rfl rfl (lD _) (qu _ _)) ?_|refine Ta ?_|(refine Tm ?_;intro _)|refine Tc ?_|exact Tz)
   exact WX.ret1 rfl (by exact zo rfl) [⟨gE,169,[.int .i64 _]⟩] (Lle.c Lle.nil) ⟨gE,rfl,rfl⟩
  | go hCal hF hAr =>
   refine WO.calls (fs:=[]) (cs:=caps) hF rfl rfl (by simp) (fun w1 hm=>hR _ _ hwR hm.mod) (fun v N hv=>?_);obtain⟨rfl,rfl⟩:=hv
   try dsimp only[List.cons_append,List.nil_append]
   repeat (first|refine WO.does (nR rfl rfl lL ql) ?_|refine WO.does (zi rfl rfl hadd2) ?_|refine Ta ?_|(refine Tm ?_;intro _)|refine Tc ?_|exact Tz)
   exact WX.metI (i+1) (hs:=⟨⟨by omega,hAr⟩,by show fs.length - (i+1)<fs.length - i;omega⟩)
 ·have hi2:i=fs.length:=by omega
  subst hi2;rw[List.drop_length] at hAi;cases hAi
  repeat (first|refine Tw ?_|(refine Tm ?_;intro _)|exact Tz)
  refine WC.dF rfl Om ?_
  repeat (first|refine Tw ?_|(refine Tm ?_;intro _)|exact Tz)
  exact WX.ret1 rfl (by exact zo rfl) [] Lle.nil ⟨rfl,rfl⟩
end Sx
end
section
open Go Go.RowKit Go.BigFrame
namespace Sx
attribute [local irreducible] DQ WC WI WO WX wd
theorem Lle.left:∀ {N L:List Ent},Lle N (N++L)
 | [],_=>trivial
 | e::_,_=>⟨e.cs,_,Pk.here,rfl,Lle.left⟩
section
variable (p q g h:Nat) (f sec:Int) (pN pV pY pP:Option Addr) (cN cV cY cP:Nat) (N:List (Nat × Nat)) (ep d:Nat) (V Y:List Nat) (Pr:List (Nat × Nat)) (sC sS gS gD gg gn gi:Nat)
structure CkR (w:World):Prop where
 s:Seg w gS 0 (stC p q g h f sec (.slice pN N.length cN))
 d:Seg w gD 0 (dlC ep d (.slice pV V.length cV) (.slice pY Y.length cY) (.slice pP Pr.length cP) sC sS)
 g:Seg w gg 0 (yB p q g h)
 n:Seg w gn 0 [.int .i64 (N.length:Int)]
 i:Seg w gi 0 [.func (.func 71) #[] #[pt gg]]
 rN:RdF yf (.slice pN N.length cN) N w
 rV:RdF zb (.slice pV V.length cV) V w
 rY:RdF zb (.slice pY Y.length cY) Y w
 rP:RdF pfC (.slice pP Pr.length cP) Pr w
theorem CkR.mod {w w' : World} (k:CkR p q g h f sec pN pV pY pP cN cV cY cP N ep d V Y Pr sC sS gS gD gg gn gi w) (hm:Mod [] w w'):CkR p q g h f sec pN pV pY pP cN cV cY cP N ep d V Y Pr sC sS gS gD gg gn gi w':=⟨k.s.mod hm (by simp),k.d.mod hm (by simp),k.g.mod hm (by simp),k.n.mod hm (by simp),k.i.mod hm (by simp),k.rN.mod hm,k.rV.mod hm,k.rY.mod hm,k.rP.mod hm⟩
theorem adB (a:Nat) (ha:a<zd) (hp:p<zd) (hq:q<zd):Fn Tryz.prog 73 ([zj a]++[pt gg]) (fun w=>Seg w gg 0 (yB p q g h)) (Is (.bool (!gIn p q a))):=by
 have hI:=qg p q g h a ha hp hq;generalize gIn p q a=r at *;refine Fn.enter Tryz.func73 rfl rfl rfl ?_;intro w hw
 repeat (first|refine Ta ?_|(refine Tm ?_;intro _)|refine WO.acall (hc:=hI) (k:=?_)|refine Tc ?_|exact Tz)
 done
theorem adl (xs:List Nat) (b o c:Nat) (hx:∀ a∈xs,a<zd) (hn:xs.length≤1000) (hp:p<zd) (hq:q<zd):Fn Tryz.prog 71 ([.slice (some ⟨b,o,none⟩) xs.length c]++[pt gg]) (fun w=>Seg w b o (xs.flatMap zb)∧Seg w gg 0 (yB p q g h)) (Is (.bool (xs.all (gIn p q)))):=by
 have hC:=tv (f:=73) [pt gg] (fun a=>!gIn p q a) xs b o c (fun w=>Seg w gg 0 (yB p q g h)) yj.seg Om (fun x h1=>adB p q g h gg x (hx x h1) hp hq);have e:xs.all (gIn p q) = !(xs.any fun a=>!gIn p q a):=by rw[List.any_eq_not_all_not];simp
 rw[e];generalize (xs.any fun a=>!gIn p q a)=r at *;refine Fn.enter Tryz.func71 rfl rfl rfl ?_;intro w hw;obtain⟨hw1,hw2⟩:=hw
 repeat (first|refine WO.does (zP rfl rfl) ?_|refine Ta ?_|(refine Tm ?_;intro _)|refine WO.acallR (hc:=hC) (hR:=fun w' hm=>⟨hw1.mod hm.mod (by simp),hw2.mod hm.mod (by simp)⟩) (k:=?_)|refine Tc ?_|exact Tz)
 done
theorem afj (hp:p<zd) (hq:q<zd) (hg:g<zd) (hh:h<zd) (hN:yz N) (hNl:N.length≤1099511627776)
  (hf1 : -9223372036854775808≤f) (hf2:f≤9223372036854775807) (hs1 : -9223372036854775808≤sec) (hs2:sec≤9223372036854775807) :
  Fn Tryz.prog 77 [pt gS] (CkR p q g h f sec pN pV pY pP cN cV cY cP N ep d V Y Pr sC sS gS gD gg gn gi) (aQ (if v6 p q g h f sec N then none else some 1)):=by
 have hS:=tL p q g h f sec pN cN N hp hq hg hh hN hNl hf1 hf2 hs1 hs2;generalize v6 p q g h f sec N=r at *;refine Fn.enter Tryz.func77 rfl rfl rfl ?_;intro w hw;have hsS:=hw.s
 repeat (first|refine WO.does (zm (vs:=stC p q g h f sec (.slice pN N.length cN)) (hs:=hsS)) ?_|refine Ta ?_|(refine Tm ?_;intro _)|refine WO.acallR (hc:=hS) (hR:=fun w' hm=>(hw.rN.mod hm.mod)) (k:=?_)|refine Tc ?_|exact Tz)
 refine WO.calls (fs:=[]) (cs:=[]) (vh 1 r) rfl rfl rfl (fun _ _=>trivial) (fun v N hv=>?_)
 repeat (first|refine Tw ?_|(refine Tm ?_;intro _)|exact Tz)
 exact WX.ret1 rfl (by exact zo rfl) N Lle.left hv
def shB (p q:Nat) (N:List (Nat × Nat)) (d:Nat) (V Y:List Nat) (Pr:List (Nat × Nat)):Bool:=pJ d N && decide (V.length=N.length) && decide (Y.length=N.length) && decide (Pr.length=N.length) && V.all (gIn p q) && Y.all (gIn p q)
theorem aeP (hp:p<zd) (hq:q<zd) (hd:d<256) (hNl:N.length≤100) (hN1:1≤N.length) (hVl:V.length≤1000) (hYl:Y.length≤1000) (hPl:Pr.length≤1000) (hV:∀ a∈V,a<zd) (hY:∀ a∈Y,a<zd) :
  Fn Tryz.prog 79 [pt gS,pt gD,pt gn,pt gi] (CkR p q g h f sec pN pV pY pP cN cV cY cP N ep d V Y Pr sC sS gS gD gg gn gi) (aQ (if shB p q N d V Y Pr then none else some 4)):=by
 have hNo:=aaI p q g h f sec pN cN N d hd Om;refine Fn.enter Tryz.func79 rfl rfl rfl ?_;intro w hw;have hsS:=hw.s;have hsD:=hw.d;have hsn:=hw.n;have hsi:=hw.i;unfold shB;cases e1:pJ d N with
 | false =>
  rw[e1] at hNo
  repeat (first|refine WO.does (zm (vs:=stC p q g h f sec (.slice pN N.length cN)) (hs:=hsS)) ?_|refine WO.does (zl (hs:=hsD)) ?_|refine WO.does (zl (hs:=hsn)) ?_|refine WO.does (zl (hs:=hsi)) ?_|refine WO.does (zZ rfl rfl Om) ?_|refine WO.does (yg rfl rfl Om) ?_|refine Ta ?_|(refine Tm ?_;intro _)|refine WO.acall (hc:=hNo) (k:=?_)|refine Tc ?_|exact Tz)
  refine WO.calls (fs:=[]) (cs:=[]) (vh 4 false) rfl rfl rfl (fun _ _=>trivial) (fun v N' hv=>?_)
  repeat (first|refine Tw ?_|(refine Tm ?_;intro _)|exact Tz)
  exact WX.ret1 rfl (by exact zo rfl) N' Lle.left hv
 | true =>
 rw[e1] at hNo
 by_cases e2:V.length=N.length
 case neg =>
  rw[decide_eq_false e2]
  repeat (first|refine WO.does (zm (vs:=stC p q g h f sec (.slice pN N.length cN)) (hs:=hsS)) ?_|refine WO.does (zl (hs:=hsD)) ?_|refine WO.does (zl (hs:=hsn)) ?_|refine WO.does (zl (hs:=hsi)) ?_|refine WO.does (zZ rfl rfl Om) ?_|refine WO.does (yg rfl rfl Om) ?_|refine Ta ?_|(refine Tm ?_;intro _)|refine WO.acall (hc:=hNo) (k:=?_)|refine Tc ?_|exact Tz)
  simp only[Bool.and_false,Bool.false_and];refine WO.calls (fs:=[]) (cs:=[]) (vh 4 false) rfl rfl rfl (fun _ _=>trivial) (fun v N' hv=>?_)
  repeat (first|refine Tw ?_|(refine Tm ?_;intro _)|exact Tz)
  exact WX.ret1 rfl (by exact zo rfl) N' Lle.left hv
 by_cases e3:Y.length=N.length
 case neg =>
  rw[decide_eq_false e3]
  repeat (first|refine WO.does (zm (vs:=stC p q g h f sec (.slice pN N.length cN)) (hs:=hsS)) ?_|refine WO.does (zl (hs:=hsD)) ?_|refine WO.does (zl (hs:=hsn)) ?_|refine WO.does (zl (hs:=hsi)) ?_|refine WO.does (zZ rfl rfl Om) ?_|refine WO.does (yg rfl rfl Om) ?_|refine Ta ?_|(refine Tm ?_;intro _)|refine WO.acall (hc:=hNo) (k:=?_)|refine Tc ?_|exact Tz)
  simp only[Bool.and_false,Bool.false_and];refine WO.calls (fs:=[]) (cs:=[]) (vh 4 false) rfl rfl rfl (fun _ _=>trivial) (fun v N' hv=>?_)
  repeat (first|refine Tw ?_|(refine Tm ?_;intro _)|exact Tz)
  exact WX.ret1 rfl (by exact zo rfl) N' Lle.left hv
 by_cases e4:Pr.length=N.length
 case neg =>
  rw[decide_eq_false e4]
  repeat (first|refine WO.does (zm (vs:=stC p q g h f sec (.slice pN N.length cN)) (hs:=hsS)) ?_|refine WO.does (zl (hs:=hsD)) ?_|refine WO.does (zl (hs:=hsn)) ?_|refine WO.does (zl (hs:=hsi)) ?_|refine WO.does (zZ rfl rfl Om) ?_|refine WO.does (yg rfl rfl Om) ?_|refine Ta ?_|(refine Tm ?_;intro _)|refine WO.acall (hc:=hNo) (k:=?_)|refine Tc ?_|exact Tz)
  simp only[Bool.and_false,Bool.false_and];refine WO.calls (fs:=[]) (cs:=[]) (vh 4 false) rfl rfl rfl (fun _ _=>trivial) (fun v N' hv=>?_)
  repeat (first|refine Tw ?_|(refine Tm ?_;intro _)|exact Tz)
  exact WX.ret1 rfl (by exact zo rfl) N' Lle.left hv
 obtain⟨x0,hx0⟩ : ∃ x,V[0]?=some x:=⟨_,List.getElem?_eq_getElem Om⟩;obtain⟨y0,hy0⟩ : ∃ x,Y[0]?=some x:=⟨_,List.getElem?_eq_getElem Om⟩;obtain⟨bV,oV,eV,_,hVs⟩:=hw.rV.get hx0;obtain⟨bY,oY,eY,_,hYs⟩:=hw.rY.get hy0;subst eV eY;have hC1:=adl p q g h gg V bV oV cV hV hVl hp hq;have hC2:=adl p q g h gg Y bY oY cY hY hYl hp hq;rw[decide_eq_true e2,decide_eq_true e3,decide_eq_true e4];cases e5:V.all (gIn p q) with
 | false =>
  rw[e5] at hC1
  repeat (first|refine WO.does (zm (vs:=stC p q g h f sec (.slice pN N.length cN)) (hs:=hsS)) ?_|refine WO.does (zl (hs:=hsD)) ?_|refine WO.does (zl (hs:=hsn)) ?_|refine WO.does (zl (hs:=hsi)) ?_|refine WO.does (zZ rfl rfl Om) ?_|refine WO.does (yg rfl rfl Om) ?_|refine Ta ?_|(refine Tm ?_;intro _)|refine WO.acall (hc:=hNo) (k:=?_)|refine WO.acallV (hc:=hC1) (hR:=fun w' hm=>⟨hVs.mod hm.mod (by simp),hw.g.mod hm.mod (by simp)⟩) (k:=?_)|refine Tc ?_|exact Tz)
  simp only[Bool.and_false,Bool.false_and];refine WO.calls (fs:=[]) (cs:=[]) (vh 4 false) rfl rfl rfl (fun _ _=>trivial) (fun v N' hv=>?_)
  repeat (first|refine Tw ?_|(refine Tm ?_;intro _)|exact Tz)
  exact WX.ret1 rfl (by exact zo rfl) N' Lle.left hv
 | true =>
 rw[e5] at hC1;generalize Y.all (gIn p q)=r at *
 repeat (first|refine WO.does (zm (vs:=stC p q g h f sec (.slice pN N.length cN)) (hs:=hsS)) ?_|refine WO.does (zl (hs:=hsD)) ?_|refine WO.does (zl (hs:=hsn)) ?_|refine WO.does (zl (hs:=hsi)) ?_|refine WO.does (zZ rfl rfl Om) ?_|refine WO.does (yg rfl rfl Om) ?_|refine Ta ?_|(refine Tm ?_;intro _)|refine WO.acall (hc:=hNo) (k:=?_)|refine WO.acallV (hc:=hC1) (hR:=fun w' hm=>⟨hVs.mod hm.mod (by simp),hw.g.mod hm.mod (by simp)⟩) (k:=?_)|refine WO.acallV (hc:=hC2) (hR:=fun w' hm=>⟨hYs.mod hm.mod (by simp),hw.g.mod hm.mod (by simp)⟩) (k:=?_)|refine Tc ?_|exact Tz)
 simp only[Bool.and_true,Bool.true_and];refine WO.calls (fs:=[]) (cs:=[]) (vh 4 r) rfl rfl rfl (fun _ _=>trivial) (fun v N' hv=>?_)
 repeat (first|refine Tw ?_|(refine Tm ?_;intro _)|exact Tz)
 exact WX.ret1 rfl (by exact zo rfl) N' Lle.left hv
end
section
variable (p q g h:Nat) (f sec:Int) (pN pV pY pP:Option Addr) (cN cV cY cP:Nat) (N:List (Nat × Nat)) (ep d:Nat) (V Y:List Nat) (Pr:List (Nat × Nat)) (sC sS gS gD gg gn gi:Nat)
theorem afa (n c:Nat) (hNn:N.length=n) (hfs:f+sec=(c:Int)) (hVn:V.length=n) (hn1:1≤n) (hn7:n≤7) (hc1:1≤c) (hcn:c≤n) (hnq:n<q) (hq:q<zd) (hp:p<zd) (h1p:1<p) (hV:abZ p V) :
  Fn Tryz.prog 80 [pt gg,pt gD,pt gS] (CkR p q g h f sec pN pV pY pP cN cV cY cP N ep d V Y Pr sC sS gS gD gg gn gi) (aQ (if duB p q n c V then none else some 12)):=by
 refine Fn.enter Tryz.func80 rfl rfl rfl ?_;intro w hw;obtain⟨x0,hx0⟩ : ∃ x,V[0]?=some x:=⟨_,List.getElem?_eq_getElem Om⟩;obtain⟨bV,oV,eV,_,hVs⟩:=hw.rV.get hx0;subst eV;have hlV:bV<w.heap.size:=RdF.lt (k:=3) (fun _=>rfl) hw.rV (by rintro rfl;simp at hx0);have hD:=aR p q g h V n cV c bV oV hVn hn1 hn7 hc1 hcn hnq hq hp h1p hV;have hsS:=hw.s;have hsD:=hw.d;have hsg:=hw.g;rw[hVn] at hsD;have hadd:IntKind.i64.wrap (f+sec)=(c:Int):=by rw[hfs];exact i64_in Om Om
 generalize duB p q n c V=b at *
 repeat (first|refine WO.does (zm (vs:=yB p q g h) (hs:=hsg)) ?_|refine WO.does (zl (hs:=hsD)) ?_|refine WO.does (zl (hs:=hsS)) ?_|refine WO.does (zi rfl rfl hadd) ?_|refine Ta ?_|(refine Tm ?_;intro _)|refine Tc ?_|exact Tz)
 refine WO.calls (fs:=[]) (cs:=[]) hD rfl rfl rfl (fun w1 hm=>⟨hVs.mod hm.mod (by simp),Nat.lt_of_lt_of_le hlV hm.mod.size⟩) (fun v N1 hv=>?_);obtain⟨e,rfl,he,rfl⟩:=hv;cases b with
 | true =>
  obtain rfl:=he rfl
  repeat (first|refine WO.does (zZ rfl rfl rfl) ?_|refine Ta ?_|(refine Tm ?_;intro _)|refine Tc ?_|exact Tz)
  refine WO.calls (fs:=[]) (cs:=[]) (vh 12 true) rfl rfl rfl (fun _ _=>trivial) (fun v N' hv=>?_)
  repeat (first|refine Tw ?_|(refine Tm ?_;intro _)|exact Tz)
  exact WX.ret1 rfl (by exact zo rfl) N' Lle.left hv
 | false =>
  repeat (first|refine Tw ?_|(refine Tm ?_;intro _)|exact Tz)
  refine WO.calls (fs:=[]) (cs:=[]) (vh 12 false) rfl rfl rfl (fun _ _=>trivial) (fun v N' hv=>?_)
  repeat (first|refine Tw ?_|(refine Tm ?_;intro _)|exact Tz)
  exact WX.ret1 rfl (by exact zo rfl) N' Lle.left hv
theorem aeK (k:Nat × Nat) (hk:N[d - 1]?=some k) (hd1:1≤d) (hd:d<256) (hV0:V≠[]) (hY0:Y≠[]) (hP0:Pr≠[]) (hVl:V.length≤1000) (hYl:Y.length≤1000) (hPl:Pr.length≤1000) (hk1:k.1<zd) (hk2:k.2<zd)
  (hp:p<zd) (hq:q<zd) (hg:g<zd) (hC:sC<zd) (hS:sS<zd) (hgm:yq p g=true) (hHl:(yN ep d V Y Pr).length=32) (hHb:∀ b∈yN ep d V Y Pr,b<256) :
  Fn Tryz.prog 84 [pt gg,pt gS,pt gD] (CkR p q g h f sec pN pV pY pP cN cV cY cP N ep d V Y Pr sC sS gS gD gg gn gi) (aQ (if nq p q g k.1 sC sS (yN ep d V Y Pr) then none else some 10)):=by
 have hH:=ce ep d sC sS pV pY pP cV cY cP V Y Pr hd hVl hYl hPl;have hSg:=ij p q g h k.1 sC sS (yN ep d V Y Pr) hp hq hg hk1 hC hS hHb hHl hgm;generalize yN ep d V Y Pr=H at *;generalize nq p q g k.1 sC sS H=b at *;have hbH:(byC H).length=32:=by rw[ze,hHl]
 refine Fn.enter Tryz.func84 rfl rfl rfl ?_;intro w hw;obtain⟨bN,oN,eN,_,hNs⟩:=hw.rN.get hk;subst eN;have hlt:d - 1<N.length:=by
  rcases Nat.lt_or_ge (d - 1) N.length with h1|h1
  ·exact h1
  ·rw[List.getElem?_eq_none h1] at hk;cases hk
 have hsS:=hw.s;have hsD:=hw.d;have hsg:=hw.g;have hsub:IntKind.u8.wrap ((d:Int) - 1)=((d - 1:Nat):Int):=by simp[IntKind.wrap,IntKind.signed,IntKind.bits];omega
 have hcK:=zQ vJ hk;have hcx:cut (N.flatMap yf) (oN+(d - 1)*8 - oN) 4=zb k.1:=by
  rw[Nat.add_sub_cancel_left];have:cut (cut (N.flatMap yf) ((d - 1)*8) 8) 0 4=cut (N.flatMap yf) ((d - 1)*8) 4:=by unfold cut;rw[List.drop_zero,List.take_take];rfl
  rw[← this,hcK];rfl
 obtain⟨key,k2⟩:=k;dsimp only at *
 repeat (first|refine Tw ?_|(refine Tm ?_;intro _)|exact Tz)
 refine WC.adraw 16 (k:=?_);refine DQ.does (fun s _=>zm (vs:=yB p q g h) (hs:=hsg)) Dp.const ?_
 iterate 1 (first|refine Da ?_|refine Dc ?_)
 refine DQ.does (fun s _=>zl (hs:=hsS)) Dp.const ?_
 iterate 1 (first|refine Da ?_|refine Dc ?_)
 refine DQ.does (fun s _=>zl (hs:=hsD)) Dp.const ?_;refine DQ.does (fun s _=>zG rfl rfl hsub) Dp.const ?_;refine DQ.does (fun s _=>zc (o':=oN+(d - 1)*8) rfl rfl hlt rfl) Dp.const ?_
 iterate 1 (first|refine Da ?_|refine Dc ?_)
 refine DQ.does (fun s _=>zm (vs:=zb key) (hs:=hNs) (hle:=Nat.le_add_right _ _) (hc:=hcx)) Dp.const ?_;refine DQ.does (fun s _=>zm (vs:=dlC ep d (.slice pV V.length cV) (.slice pY Y.length cY) (.slice pP Pr.length cP) sC sS) (hs:=hsD)) Dp.const ?_;refine DQ.acallM (hc:=hH) (hR:=fun w1 hm=>⟨hw.rV.mod hm.mod,hw.rY.mod hm.mod,hw.rP.mod hm.mod⟩) (k:=?_)
 iterate 1 (first|refine Da ?_|refine Dc ?_)
 refine DQ.does (fun s _=>zm (vs:=y7 sC sS) (hs:=hsD)) Dp.const ?_;refine DQ.acallM (hc:=hSg) (hR:=fun _ _=>trivial) (k:=?_);cases b with
 | true =>
  refine DQ.acallM (hc:=nW 10) (hR:=fun _ _=>trivial) (k:=?_)
  iterate 1 (first|refine Da ?_|refine Dc ?_)
  refine DQ.anil (k:=?_);intro sx _
  repeat (first|refine Tw ?_|(refine Tm ?_;intro _)|exact Tz)
  exact WX.ret1 rfl (by exact zo rfl) [] Lle.nil ⟨rfl,rfl⟩
 | false =>
  refine DQ.callsE (fs:=fun _=>[]) (cs:=fun _=>[]) (R:=fun _=>Tr) (vf:=fun _ x=>.iface 167 (pt (x 0))) (Nf:=fun _ x=>[⟨x 0,169,[.int .i64 10]⟩]) (S:=fun _ _=>True) (fun _=>[]) (fun _=>.nil)
   (fun _=>⟨fun _=>0,trivial⟩) (fun _ _=>nb 10) (fun _=>rfl) (fun _=>rfl) (fun _=>rfl) (fun _ _ w hm=>trivial) Dp.const Dp.const Dp.const ?_
  try dsimp only[List.map_cons,List.map_nil,List.cons_append,List.nil_append]
  iterate 1 (first|refine Da ?_|refine Dc ?_)
  refine DQ.anil (k:=?_);intro sx _
  repeat (first|refine Tw ?_|(refine Tm ?_;intro _)|exact Tz)
  exact WX.ret1 rfl (by exact zo rfl) _ (Lle.c Lle.nil) ⟨_,rfl,rfl⟩
end
def aeS:ByteArray:=⟨#[115,104,97,114,101]⟩
def pfB (p q g:Nat) (N:List (Nat × Nat)) (V Y:List Nat) (Pr:List (Nat × Nat)) (i:Nat):Bool:=ckB p q (yb aeS) g (V[i]?.getD 0) (N[i]?.getD (0,0)).2 (Y[i]?.getD 0) (Pr[i]?.getD (0,0)).1 (Pr[i]?.getD (0,0)).2
def aaz (p q g:Nat) (N:List (Nat × Nat)) (V Y:List Nat) (Pr:List (Nat × Nat)):Bool:=(List.range Pr.length).all (pfB p q g N V Y Pr)
theorem acr {P:Nat→Bool} {n i:Nat} (hi:i<n) (h:P i=false):(List.range n).all P=false:=by
 rw[List.all_eq_false];exact⟨i,List.mem_range.2 hi,by simp[h]⟩
theorem bz {α:Type} {f:α→List Value} {m k o:Nat} {xs:List α} {i:Nat} {x:α} (hk:∀ x,(f x).length=k) (hx:xs[i]?=some x) (hm:o+m≤k):cut (xs.flatMap f) (i*k+o) m=cut (f x) o m:=by
 rw[← zQ hk hx];unfold cut;rw[List.drop_take,List.take_take,List.drop_drop,Nat.min_eq_left Om]
section
variable (p q g h:Nat) (f sec:Int) (pN pV pY pP:Option Addr) (cN cV cY cP:Nat) (N:List (Nat × Nat)) (ep d:Nat) (V Y:List Nat) (Pr:List (Nat × Nat)) (sC sS gS gD gg gn gi:Nat)
theorem aeI (hVn:V.length=Pr.length) (hYn:Y.length=Pr.length) (hNn:N.length=Pr.length) (hP7:Pr.length≤7) (hN:yz N) (hV:∀ a∈V,a<zd) (hY:∀ a∈Y,a<zd) (hPr:yz Pr) (hp:p<zd) (hq:q<zd) (hg:g<zd) :
  Fn Tryz.prog 82 [pt gD,pt gg,pt gS] (CkR p q g h f sec pN pV pY pP cN cV cY cP N ep d V Y Pr sC sS gS gD gg gn gi) (aQ (if aaz p q g N V Y Pr then none else some 11)):=by
 refine Fn.enter Tryz.func82 rfl rfl rfl ?_;intro w hw;have hsS:=hw.s;have hsD:=hw.d;have hsg:=hw.g
 repeat (first|refine WO.does (zl (hs:=hsD)) ?_|refine Ta ?_|(refine Tm ?_;intro _)|refine Tc ?_|exact Tz)
 refine WC.loopI (σ:=Nat) (fun i=>i≤Pr.length∧∀ j,j<i→pfB p q g N V Y Pr j=true) (fun i=>[(0,pt gD),(1,pt gg),(2,pt gS),(7,.slice pP Pr.length cP),(8,.int .i64 (Pr.length:Int)),(9,.int .i64 (i:Int))]) (fun _=>[]) (fun i=>Pr.length - i) 0 (fun i hi=>?_) ⟨Nat.zero_le _,fun j hj=>absurd hj (Nat.not_lt_zero _)⟩
 try dsimp only at hi ⊢
 obtain⟨hi,h0⟩:=hi
 by_cases hlt:i<Pr.length
 ·obtain⟨x,hx⟩ : ∃ y,V[i]?=some y:=⟨_,List.getElem?_eq_getElem Om⟩;obtain⟨y,hy⟩ : ∃ z,Y[i]?=some z:=⟨_,List.getElem?_eq_getElem Om⟩;obtain⟨k,hk⟩ : ∃ z,N[i]?=some z:=⟨_,List.getElem?_eq_getElem Om⟩;obtain⟨pr,hpr⟩ : ∃ z,Pr[i]?=some z:=⟨_,List.getElem?_eq_getElem Om⟩;obtain⟨bV,oV,eV,_,hVs⟩:=hw.rV.get hx;obtain⟨bY,oY,eY,_,hYs⟩:=hw.rY.get hy;obtain⟨bN,oN,eN,_,hNs⟩:=hw.rN.get hk;obtain⟨bP,oP,eP,_,hPs⟩:=hw.rP.get hpr;subst eV eY eN eP;have hcV:cut (V.flatMap zb) (oV+i*4 - oV) 4=zb x:=by rw[Nat.add_sub_cancel_left];exact zQ ya hx
  have hcY:cut (Y.flatMap zb) (oY+i*4 - oY) 4=zb y:=by rw[Nat.add_sub_cancel_left];exact zQ ya hy
  have hcP:cut (Pr.flatMap pfC) (oP+i*8 - oP) 8=pfC pr:=by rw[Nat.add_sub_cancel_left];exact zQ qd hpr
  have hcN:cut (N.flatMap yf) (oN+i*8+4 - oN) 4=zb k.2:=by
   rw[Nat.add_assoc,Nat.add_sub_cancel_left,bz vJ hk (by decide)];rfl
  have hadd2:IntKind.i64.wrap ((i:Int)+1)=((i+1:Nat):Int):=zn Om Om Om;have hC:=aa1 p q g h aeS g x k.2 y pr.1 pr.2 hp hq hg (hV _ (List.mem_of_getElem? hx)) (hN _ (List.mem_of_getElem? hk)).2 (hY _ (List.mem_of_getElem? hy)) (hPr _ (List.mem_of_getElem? hpr)).1 (hPr _ (List.mem_of_getElem? hpr)).2 (by decide);have hb:ckB p q (yb aeS) g x k.2 y pr.1 pr.2=pfB p q g N V Y Pr i:=by unfold pfB;rw[hx,hy,hk,hpr];rfl
  rw[hb] at hC;cases hr:pfB p q g N V Y Pr i with
  | true =>
   rw[hr] at hC
   repeat (first|refine Tw ?_|(refine Tm ?_;intro _)|exact Tz)
   refine WC.dT rfl Om ?_
   repeat (first|refine WO.does (zc (o':=oP+i*8) rfl rfl hlt rfl) ?_|refine WO.does (zm (vs:=pfC pr) (hs:=hPs) (hle:=Nat.le_add_right _ _) (hc:=hcP)) ?_|refine Ta ?_|(refine Tm ?_;intro _)|refine Tc ?_|exact Tz)
   refine WC.adraw 22 (k:=?_);refine DQ.does (fun s _=>zm (vs:=yB p q g h) (hs:=hsg)) Dp.const ?_
   iterate 1 (first|refine Da ?_|refine Dc ?_)
   refine DQ.does (fun s _=>zm (vs:=zb g) (hs:=hsg)) Dp.const ?_
   iterate 1 (first|refine Da ?_|refine Dc ?_)
   refine DQ.does (fun s _=>zl (hs:=hsD)) Dp.const ?_
   iterate 1 (first|refine Da ?_|refine Dc ?_)
   refine DQ.does (fun s _=>zc (o':=oV+i*4) rfl rfl Om rfl) Dp.const ?_;refine DQ.does (fun s _=>zm (vs:=zb x) (hs:=hVs) (hle:=Nat.le_add_right _ _) (hc:=hcV)) Dp.const ?_
   iterate 1 (first|refine Da ?_|refine Dc ?_)
   refine DQ.does (fun s _=>zl (hs:=hsS)) Dp.const ?_
   iterate 1 (first|refine Da ?_|refine Dc ?_)
   refine DQ.does (fun s _=>zc (o':=oN+i*8) rfl rfl Om rfl) Dp.const ?_
   iterate 1 (first|refine Da ?_|refine Dc ?_)
   refine DQ.does (fun s _=>zm (vs:=zb k.2) (hs:=hNs) (hle:=by omega) (hc:=hcN)) Dp.const ?_
   iterate 1 (first|refine Da ?_|refine Dc ?_)
   refine DQ.does (fun s _=>zl (hs:=hsD)) Dp.const ?_
   iterate 1 (first|refine Da ?_|refine Dc ?_)
   refine DQ.does (fun s _=>zc (o':=oY+i*4) rfl rfl Om rfl) Dp.const ?_;refine DQ.does (fun s _=>zm (vs:=zb y) (hs:=hYs) (hle:=Nat.le_add_right _ _) (hc:=hcY)) Dp.const ?_;refine DQ.does (fun s _=>zH (vs:=pfC pr) (hc:=rfl)) Dp.const ?_;refine DQ.acallM (hc:=hC) (hR:=fun _ _=>trivial) (k:=?_)
   iterate 1 (first|refine Da ?_|refine Dc ?_)
   refine DQ.anil (k:=?_);intro sx _
   repeat (first|refine WO.does (zi rfl rfl hadd2) ?_|refine Ta ?_|(refine Tm ?_;intro _)|refine Tc ?_|exact Tz)
   exact WX.metI (i+1) (hs:=⟨⟨by omega,fun j hj=>by
    by_cases e:j=i
    ·subst e;exact hr
    ·exact h0 j Om⟩,by show Pr.length - (i+1)<Pr.length - i;omega⟩)
  | false =>
   rw[hr] at hC;rw[show aaz p q g N V Y Pr=false from acr hlt hr]
   repeat (first|refine Tw ?_|(refine Tm ?_;intro _)|exact Tz)
   refine WC.dT rfl Om ?_
   repeat (first|refine WO.does (zc (o':=oP+i*8) rfl rfl hlt rfl) ?_|refine WO.does (zm (vs:=pfC pr) (hs:=hPs) (hle:=Nat.le_add_right _ _) (hc:=hcP)) ?_|refine Ta ?_|(refine Tm ?_;intro _)|refine Tc ?_|exact Tz)
   refine WC.adraw 22 (k:=?_);refine DQ.does (fun s _=>zm (vs:=yB p q g h) (hs:=hsg)) Dp.const ?_
   iterate 1 (first|refine Da ?_|refine Dc ?_)
   refine DQ.does (fun s _=>zm (vs:=zb g) (hs:=hsg)) Dp.const ?_
   iterate 1 (first|refine Da ?_|refine Dc ?_)
   refine DQ.does (fun s _=>zl (hs:=hsD)) Dp.const ?_
   iterate 1 (first|refine Da ?_|refine Dc ?_)
   refine DQ.does (fun s _=>zc (o':=oV+i*4) rfl rfl Om rfl) Dp.const ?_;refine DQ.does (fun s _=>zm (vs:=zb x) (hs:=hVs) (hle:=Nat.le_add_right _ _) (hc:=hcV)) Dp.const ?_
   iterate 1 (first|refine Da ?_|refine Dc ?_)
   refine DQ.does (fun s _=>zl (hs:=hsS)) Dp.const ?_
   iterate 1 (first|refine Da ?_|refine Dc ?_)
   refine DQ.does (fun s _=>zc (o':=oN+i*8) rfl rfl Om rfl) Dp.const ?_
   iterate 1 (first|refine Da ?_|refine Dc ?_)
   refine DQ.does (fun s _=>zm (vs:=zb k.2) (hs:=hNs) (hle:=by omega) (hc:=hcN)) Dp.const ?_
   iterate 1 (first|refine Da ?_|refine Dc ?_)
   refine DQ.does (fun s _=>zl (hs:=hsD)) Dp.const ?_
   iterate 1 (first|refine Da ?_|refine Dc ?_)
   refine DQ.does (fun s _=>zc (o':=oY+i*4) rfl rfl Om rfl) Dp.const ?_;refine DQ.does (fun s _=>zm (vs:=zb y) (hs:=hYs) (hle:=Nat.le_add_right _ _) (hc:=hcY)) Dp.const ?_;refine DQ.does (fun s _=>zH (vs:=pfC pr) (hc:=rfl)) Dp.const ?_;refine DQ.acallM (hc:=hC) (hR:=fun _ _=>trivial) (k:=?_)
   iterate 1 (first|refine Da ?_|refine Dc ?_)
   refine DQ.anil (k:=?_);intro sx _
   repeat (first|refine WO.does (vo (by kernel_rfl) rfl) ?_|refine Ta ?_|(refine Tm ?_;intro _)|refine Tc ?_|exact Tz)
   exact WX.ret1 rfl (by exact zo rfl) [⟨_,169,[.int .i64 11]⟩] (Lle.c Lle.nil) ⟨_,rfl,rfl⟩
 ·have hi2:i=Pr.length:=by omega
  have hall:aaz p q g N V Y Pr=true:=by
   unfold aaz;rw[List.all_eq_true];exact fun j hj=>h0 j (by have:=List.mem_range.1 hj;omega)
  rw[hall]
  repeat (first|refine Tw ?_|(refine Tm ?_;intro _)|exact Tz)
  refine WC.dF rfl Om ?_
  repeat (first|refine Tw ?_|(refine Tm ?_;intro _)|exact Tz)
  exact WX.ret1 rfl (by exact zo rfl) [] Lle.nil ⟨rfl,rfl⟩
end
end Sx
end
section
open Go Go.RowKit Go.BigFrame
namespace Sx
section
variable (p q g h:Nat) (f sec:Int) (N:List (Nat × Nat)) (ep d:Nat) (V Y:List Nat) (Pr:List (Nat × Nat)) (sC sS:Nat)
def ckE:Option Int:=if v6 p q g h f sec N then (if shB p q N d V Y Pr then (if duB p q N.length (f+sec).toNat V then (if aaz p q g N V Y Pr then (if nq p q g (N[d - 1]?.getD (0,0)).1 sC sS (yN ep d V Y Pr) then none else some 10) else some 11) else some 12) else some 4) else some 1
end
end Sx
end
section
open Go Go.RowKit Go.BigFrame
namespace Sx
attribute [local irreducible] DQ WC WI WO WX wd
end Sx
end
section
open Go Go.RowKit Go.BigFrame
namespace Sx
attribute [local irreducible] DQ WC WI WO WT WX wd
section
variable (p q g h:Nat) (f sec:Int) (pN pV pY pP:Option Addr) (cN cV cY cP:Nat) (N:List (Nat × Nat)) (ep d:Nat) (V Y:List Nat) (Pr:List (Nat × Nat)) (sC sS:Nat)
theorem gU (r:Option Int) (hAsk:∀ gS gD gg gn gi,aaR (CkR p q g h f sec pN pV pY pP cN cV cY cP N ep d V Y Pr sC sS gS gD gg gn gi)
   [(77,[pt gS]),(79,[pt gS,pt gD,pt gn,pt gi]),(80,[pt gg,pt gD,pt gS]),(82,[pt gD,pt gg,pt gS]),(84,[pt gg,pt gS,pt gD])] r) :
  Fn Tryz.prog 33 [stV p q g h f sec (.slice pN N.length cN),dlV ep d (.slice pV V.length cV) (.slice pY Y.length cY) (.slice pP Pr.length cP) sC sS]
   (fun w=>(RdF yf (.slice pN N.length cN) N w∧RdF zb (.slice pV V.length cV) V w∧RdF zb (.slice pY Y.length cY) Y w∧RdF pfC (.slice pP Pr.length cP) Pr w)∧oF w) (Is (.int .i64 (r.getD 0))):=by
 refine Fn.enter Tryz.func33 rfl rfl rfl ?_;intro w hw;obtain⟨⟨hN,hV,hY,hP⟩,hH⟩:=hw
 repeat (first|refine Tw ?_|(refine Tm ?_;intro _)|exact Tz)
 rename_i gS gD;refine WC.mainA [5,6,7,8] [(0,pt gS),(1,vC p q g h),(2,.pointer (some ⟨gS,18,none⟩)),(3,.slice pN N.length cN),(4,.int .i64 (N.length:Int))] (by decide) (fun A hA=>?_);refine WT.given [(2,pt gS),(3,pt gD),(4,.int .i64 0)] [⟨gS,33,stC p q g h f sec (.slice pN N.length cN)⟩] (by kernel_rfl) (Tlv.a (Tlv.a (Tlv.a (Tlv.a (Tlv.a (Tlv.nil)))) (h:=by refine Qux.does ?_;exact zH (vs:=yB p q g h)))) (fun hc hT=>?_)
 suffices hS480:∀ q5 q6,A [8,7,6,5] [(5,pt q5),(6,pt q6),(2,pt gS),(3,pt gD),(4,.int .i64 0)] [⟨q5,26,yB p q g h⟩,⟨q6,3,[.int .i64 (N.length:Int)]⟩,⟨gD,47,dlC ep d (.slice pV V.length cV) (.slice pY Y.length cY) (.slice pP Pr.length cP) sC sS⟩,⟨gS,33,stC p q g h f sec (.slice pN N.length cN)⟩] by
  have hS224:∀ q5 q6,A [7,6,5] [(5,pt q5),(6,pt q6),(2,pt gS),(3,pt gD),(4,.int .i64 0)] [⟨q5,26,yB p q g h⟩,⟨q6,3,[.int .i64 0]⟩,⟨gD,47,dlC ep d (.slice pV V.length cV) (.slice pY Y.length cY) (.slice pP Pr.length cP) sC sS⟩,⟨gS,33,stC p q g h f sec (.slice pN N.length cN)⟩]:=by
   intro q5 q6;refine (hA _ _ _).2 (WT.step [8] (by decide) hc hT ⟨⟨_,rfl,?_⟩,trivial⟩)
   ·refine Tw ?_;exact WT.go [] hA (hS480 q5 q6)
  have hS96:∀ q5 q6,A [6,5] [(5,pt q5),(6,pt q6),(2,pt gS),(3,pt gD),(4,.int .i64 0)] [⟨q5,26,yB 0 0 0 0⟩,⟨q6,3,[.int .i64 0]⟩,⟨gD,47,dlC ep d (.slice pV V.length cV) (.slice pY Y.length cY) (.slice pP Pr.length cP) sC sS⟩,⟨gS,33,stC p q g h f sec (.slice pN N.length cN)⟩]:=by
   intro q5 q6;refine (hA _ _ _).2 (WT.step [7] (by decide) hc hT ⟨⟨_,rfl,?_⟩,trivial⟩)
   ·refine Tw ?_;exact WT.go [] hA (hS224 q5 q6)
  have hS32:∀ q5,A [5] [(5,pt q5),(2,pt gS),(3,pt gD),(4,.int .i64 0)] [⟨q5,26,yB 0 0 0 0⟩,⟨gD,47,dlC ep d (.slice pV V.length cV) (.slice pY Y.length cY) (.slice pP Pr.length cP) sC sS⟩,⟨gS,33,stC p q g h f sec (.slice pN N.length cN)⟩]:=by
   intro q5;refine (hA _ _ _).2 (WT.step [6] (by decide) hc hT ⟨⟨_,rfl,?_⟩,trivial⟩)
   ·(refine WO.autoM (k:=?_);intro q6);exact WT.go [(6,pt q6)] hA (hS96 q5 q6)
  have hS64:∀ q6,A [6] [(6,pt q6),(2,pt gS),(3,pt gD),(4,.int .i64 0)] [⟨q6,3,[.int .i64 0]⟩,⟨gD,47,dlC ep d (.slice pV V.length cV) (.slice pY Y.length cY) (.slice pP Pr.length cP) sC sS⟩,⟨gS,33,stC p q g h f sec (.slice pN N.length cN)⟩]:=by
   intro q6;refine (hA _ _ _).2 (WT.step [5] (by decide) hc hT ⟨⟨_,rfl,?_⟩,trivial⟩)
   ·(refine WO.autoM (k:=?_);intro q5);exact WT.go [(5,pt q5)] hA (hS96 q5 q6)
  have hS0:A [] [(2,pt gS),(3,pt gD),(4,.int .i64 0)] [⟨gD,47,dlC ep d (.slice pV V.length cV) (.slice pY Y.length cY) (.slice pP Pr.length cP) sC sS⟩,⟨gS,33,stC p q g h f sec (.slice pN N.length cN)⟩]:=by
   refine (hA _ _ _).2 (WT.step [5,6] (by decide) hc hT ⟨⟨_,rfl,?_⟩,⟨_,rfl,?_⟩,trivial⟩)
   ·(refine WO.autoM (k:=?_);intro q5);exact WT.go [(5,pt q5)] hA (hS32 q5)
   ·(refine WO.autoM (k:=?_);intro q6);exact WT.go [(6,pt q6)] hA (hS64 q6)
  exact WT.less ((hA _ _ _).1 hS0) (by decide) (by repeat (first|exact Kle.nil|refine Kle.cons rfl rfl ?_)) (by repeat (first|exact Lle.nil|exact Lle.same|refine Lle.c ?_))
 intro q5 q6;refine (hA _ _ _).2 (WT.fin [5,6,7,8] 6 hc rfl (by kernel_rfl) ?_);clear hc hT hA
 repeat (first|refine WO.does (zP rfl rfl) ?_|refine Ta ?_|(refine Tm ?_;intro _)|refine Tc ?_|exact Tz)
 rename_i gi
 repeat (first|refine WO.does (zP rfl rfl) ?_|refine Ta ?_|(refine Tm ?_;intro _)|refine Tc ?_|exact Tz)
 refine WO.makes (zh (cs:=[fV (77,[pt gS]),fV (79,[pt gS,pt gD,pt q6,pt gi]),fV (80,[pt q5,pt gD,pt gS]),fV (82,[pt gD,pt q5,pt gS]),fV (84,[pt q5,pt gS,pt gD])]) rfl (by decide) rfl) ?_;intro gR;refine WO.calls (fs:=[]) (cs:=[]) (ac9 (R:=CkR p q g h f sec pN pV pY pP cN cV cY cP N ep d V Y Pr sC sS gS gD q5 q6 gi) (fun w w' k hm=>CkR.mod (k:=k) (hm:=hm)) _ r gR 5 (by simp) (hAsk gS gD q5 q6 gi)) rfl rfl rfl (fun w1 hm=>⟨Hs.sg hm,⟨Hs.sg hm,Hs.sg hm,Hs.sg hm,Hs.sg hm,Hs.sg hm,hN.mod hm.mod,hV.mod hm.mod,hY.mod hm.mod,hP.mod hm.mod⟩⟩) (fun v N1 hv=>?_);cases r with
 | none =>
  obtain⟨rfl,rfl⟩:=hv
  try dsimp only[List.cons_append,List.nil_append]
  repeat (first|refine Ta ?_|(refine Tm ?_;intro _)|refine WO.acall (hc:=ab4) (k:=?_)|refine Tc ?_|exact Tz)
  done
 | some e =>
  obtain⟨gE,rfl,rfl⟩:=hv
  try dsimp only[List.cons_append,List.nil_append]
  repeat (first|refine Ta ?_|(refine Tm ?_;intro _)|refine WO.acallR (hc:=ab6 gE e) (hR:=fun w1 hm=>⟨hH.mod hm.mod (by simp),Hs.sg hm⟩) (k:=?_)|refine Tc ?_|exact Tz)
  done
end
end Sx
end
section
open Go Go.RowKit Go.BigFrame
namespace Sx
section
variable (p q g h:Nat) (f sec:Int) (pN pV pY pP:Option Addr) (cN cV cY cP:Nat) (N:List (Nat × Nat)) (ep d:Nat) (V Y:List Nat) (Pr:List (Nat × Nat)) (sC sS:Nat)
theorem gm {p q g h:Nat} {f sec:Int} {N:List (Nat × Nat)} {c:Nat} (hs:v6 p q g h f sec N=true) (hc:f+sec=(c:Int)):c≤N.length:=by
 unfold v6 at hs;simp only[Bool.and_eq_true,decide_eq_true_eq] at hs;omega
theorem acO (hp:p<zd) (hq:q<zd) (hg:g<zd) (hh:h<zd) (hN:yz N) (hNl:N.length≤100)
  (hf1 : -9223372036854775808≤f) (hf2:f≤9223372036854775807) (hs1 : -9223372036854775808≤sec) (hs2:sec≤9223372036854775807)
  (hd:d<256) (hV:∀ a∈V,a<zd) (hY:∀ a∈Y,a<zd) (hPr:yz Pr) (hVl:V.length≤100) (hYl:Y.length≤100) (hPl:Pr.length≤100) (hsC:sC<zd) (hsS:sS<zd) (gS gD gg gn gi:Nat) :
  aaR (CkR p q g h f sec pN pV pY pP cN cV cY cP N ep d V Y Pr sC sS gS gD gg gn gi)
   [(77,[pt gS]),(79,[pt gS,pt gD,pt gn,pt gi]),(80,[pt gg,pt gD,pt gS]),(82,[pt gD,pt gg,pt gS]),(84,[pt gg,pt gS,pt gD])] (ckE p q g h f sec N ep d V Y Pr sC sS):=by
 have h2:=afj p q g h f sec pN pV pY pP cN cV cY cP N ep d V Y Pr sC sS gS gD gg gn gi hp hq hg hh hN Om hf1 hf2 hs1 hs2;unfold ckE;cases e0:v6 p q g h f sec N with
 | false =>
  rw[e0] at h2;rw[if_neg (by decide)] at h2 ⊢;exact .hit inferInstance h2
 | true =>
 rw[e0,if_pos rfl] at h2;rw[if_pos rfl];refine .go inferInstance h2 ?_;obtain⟨hn1,hn7,hnq,hf0,hs1',hfs5,hgm,hhm⟩:=vu e0;have h3:=aeP p q g h f sec pN pV pY pP cN cV cY cP N ep d V Y Pr sC sS gS gD gg gn gi hp hq hd hNl hn1 Om Om Om hV hY;cases e1:shB p q N d V Y Pr with
 | false =>
  rw[e1] at h3;rw[if_neg (by decide)] at h3 ⊢;exact .hit inferInstance h3
 | true =>
 rw[e1,if_pos rfl] at h3;rw[if_pos rfl];refine .go inferInstance h3 ?_;unfold shB at e1;simp only[Bool.and_eq_true,decide_eq_true_eq] at e1;obtain⟨⟨⟨⟨⟨n1,n2⟩,n3⟩,n4⟩,n5⟩,n6⟩:=e1;obtain⟨hd1,hdn⟩:=si n1;have hZ:abZ p V:=⟨hV,fun z hz=>y8 (List.all_eq_true.1 n5 z hz)⟩;obtain⟨c,hc⟩ : ∃ c:Nat,f+sec=(c:Int):=⟨(f+sec).toNat,by omega⟩;have hcN:=gm e0 hc;have h4:=afa p q g h f sec pN pV pY pP cN cV cY cP N ep d V Y Pr sC sS gS gD gg gn gi N.length c rfl hc n2 hn1 hn7 Om hcN Om hq hp (yI hgm).1 hZ;rw[show (f+sec).toNat=c by omega];cases e2:duB p q N.length c V with
 | false =>
  rw[e2] at h4;rw[if_neg (by decide)] at h4 ⊢;exact .hit inferInstance h4
 | true =>
 rw[e2,if_pos rfl] at h4;rw[if_pos rfl];refine .go inferInstance h4 ?_;have h5:=aeI p q g h f sec pN pV pY pP cN cV cY cP N ep d V Y Pr sC sS gS gD gg gn gi Om Om Om Om hN hV hY hPr hp hq hg;cases e3:aaz p q g N V Y Pr with
 | false =>
  rw[e3] at h5;rw[if_neg (by decide)] at h5 ⊢;exact .hit inferInstance h5
 | true =>
 rw[e3,if_pos rfl] at h5;rw[if_pos rfl];refine .go inferInstance h5 ?_;obtain⟨k,hk⟩ : ∃ z,N[d - 1]?=some z:=⟨_,List.getElem?_eq_getElem Om⟩;have hkm:=hN _ (List.mem_of_getElem? hk);have h6:=aeK p q g h f sec pN pV pY pP cN cV cY cP N ep d V Y Pr sC sS gS gD gg gn gi k hk hd1 hd (by rintro rfl;simp at n2;omega) (by rintro rfl;simp at n3;omega) (by rintro rfl;simp at n4;omega) Om Om Om hkm.1 hkm.2 hp hq hg hsC hsS hgm (yW _ _) (pg _ _);rw[hk,show (some k).getD (0,0)=k from rfl];cases e4:nq p q g k.1 sC sS (yN ep d V Y Pr) with
 | false =>
  rw[e4] at h6;rw[if_neg (by decide)] at h6 ⊢;exact .hit inferInstance h6
 | true =>
 rw[e4,if_pos rfl] at h6;rw[if_pos rfl];exact .go inferInstance h6 .nil
end
section
variable (p q g h:Nat) (f sec:Int) (pN pV pY pP:Option Addr) (cN cV cY cP:Nat) (N:List (Nat × Nat)) (ep d:Nat) (V Y:List Nat) (Pr:List (Nat × Nat)) (sC sS:Nat)
theorem qh (hp:p<zd) (hq:q<zd) (hg:g<zd) (hh:h<zd) (hN:yz N) (hNl:N.length≤100)
  (hf1 : -9223372036854775808≤f) (hf2:f≤9223372036854775807) (hs1 : -9223372036854775808≤sec) (hs2:sec≤9223372036854775807)
  (hd:d<256) (hV:∀ a∈V,a<zd) (hY:∀ a∈Y,a<zd) (hPr:yz Pr) (hVl:V.length≤100) (hYl:Y.length≤100) (hPl:Pr.length≤100) (hsC:sC<zd) (hsS:sS<zd) :
  Fn Tryz.prog 33 [stV p q g h f sec (.slice pN N.length cN),dlV ep d (.slice pV V.length cV) (.slice pY Y.length cY) (.slice pP Pr.length cP) sC sS]
   (fun w=>(RdF yf (.slice pN N.length cN) N w∧RdF zb (.slice pV V.length cV) V w∧RdF zb (.slice pY Y.length cY) Y w∧RdF pfC (.slice pP Pr.length cP) Pr w)∧oF w) (Is (.int .i64 ((ckE p q g h f sec N ep d V Y Pr sC sS).getD 0))) :=
 gU p q g h f sec pN pV pY pP cN cV cY cP N ep d V Y Pr sC sS _ (fun gS gD gg gn gi=>acO p q g h f sec pN pV pY pP cN cV cY cP N ep d V Y Pr sC sS hp hq hg hh hN hNl hf1 hf2 hs1 hs2 hd hV hY hPr hVl hYl hPl hsC hsS gS gD gg gn gi)
end
end Sx
end
end Go.Proofs.YtiiefkchpicncaaGreatDoor
