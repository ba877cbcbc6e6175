/- Part 42 of the proof. -/
import Derived.Test.YteibfbjpkjkejaaGreatDoorS41
set_option linter.unusedSimpArgs false
set_option linter.unusedVariables false
set_option maxHeartbeats 8000000
namespace Go.Proofs.YteibfbjpkjkejaaGreatDoor
section
open Go Go.RowKit Go.BigFrame
namespace Sx
abbrev aJ:Value:=.iface 244 (.agg #[.pointer (some ⟨3,127,none⟩)])
abbrev oy:World→Prop:=fun w=>Seg w 0 0 [aJ]
theorem abc (ge gt:Nat):FnL Tryz.prog 102 [.iface 133 (pt ge),.iface 172 (pt gt)] [⟨gt,133,[.pointer none]⟩] oy (fun v N=>v=.bool true∧N=[⟨gt,133,[pt ge]⟩]):=by
 intro w hok hnd hw;have hg:=(hok ⟨gt,133,[.pointer none]⟩ (by simp)).row (show (133:Nat)≠0 by decide);have hlt:=(hok ⟨gt,133,[.pointer none]⟩ (by simp)).lt;have hc:=(hok ⟨gt,133,[.pointer none]⟩ (by simp)).cell 0;dsimp only at hg hlt hc;refine (adm ⟨ge,0,none⟩ ⟨gt,0,none⟩ (.pointer none) w (hw 0 _ rfl) (by rw[hc];rfl) (by unfold World.frozen?;rw[hg];rfl)).mono ?_;rintro e w' ⟨rfl,rfl⟩;refine⟨.bool true,_,rfl,?_,rfl,rfl⟩;have h0:Me w [gt] [⟨gt,133,[.pointer none]⟩] w:=⟨.refl _ _,hok,fun e he=>.inr (List.mem_map.2 ⟨e,he,rfl⟩),hnd⟩;generalize hW:(((w.alloc _).alloc _).alloc _).alloc _=W;have hB:Below w.heap.size w W:=by
  subst hW;exact ((((Below.refl w.heap.size w).alloc (Nat.le_refl _) _).alloc (by simp) _).alloc (by simp;omega) _).alloc (by simp;omega) _
 have h1:=h0.below hB;have hgW:W.heap[gt]?=some (.cells #[.pointer none] 133 (0,0)):=(hB.block gt hlt).trans hg;refine h1.write (g:=gt) (t:=133) (cs:=[.pointer none]) (cs':=[pt ge]) .here rfl rfl rfl (by simp[World.setCell]) (fun k _ hk=>by simp[World.setCell,Array.getElem?_modify,hk,Ne.symm hk]) ?_;simp[World.setCell,Array.getElem?_modify,hgW]
theorem acy (v:Value):Fn Tryz.prog 102 [.nilIface,v] Tr (Is (.bool false)):=.of fun w=>(ad8 v w).mono (by rintro e w' ⟨rfl,rfl⟩;exact⟨rfl,Below.refl _ _⟩)
attribute [local irreducible] wd DQ DQS WO WC WX WI
theorem ab9:Fn Tryz.prog 55 [.nilIface] Tr (Is (.int .i64 0)):=by
 have hA:=acy;refine Fn.enter Tryz.func55 rfl rfl rfl ?_;intro w hw
 repeat (first|refine WO.does (vE (by kernel_rfl) rfl) ?_|refine Ta ?_|(refine Tm ?_;intro _)|refine WO.acall (hc:=hA _) (k:=?_)|refine Tc ?_|exact Tz)
 done
theorem abm (ge:Nat) (e:Int):Fn Tryz.prog 55 [.iface 133 (pt ge)] (fun w=>oy w∧Seg w ge 0 [.int .i64 e]) (Is (.int .i64 e)):=by
 have hA:=abc ge;refine Fn.enter Tryz.func55 rfl rfl rfl ?_;intro w hw;obtain⟨hwH,hwE⟩:=hw
 repeat (first|refine WO.does (vE (by kernel_rfl) rfl) ?_|refine Ta ?_|(refine Tm ?_;intro _)|refine Tc ?_|exact Tz)
 refine WO.callsL (hc:=hA _) (hp:=.cons Pk.a .nil) (fun w' hm=>hwH.mod hm.mod (by simp)) (fun v N hv=>?_);obtain⟨rfl,rfl⟩:=hv
 try dsimp only[List.cons_append,List.nil_append]
 repeat (first|refine WO.does (zi (hs:=hwE)) ?_|refine Ta ?_|(refine Tm ?_;intro _)|refine Tc ?_|exact Tz)
 done
theorem mi (e:Int):Fn Tryz.prog 58 [.int .i64 e,.bool true] Tr (Is .nilIface):=by
 refine Fn.enter Tryz.func58 rfl rfl rfl ?_;intro w hw
 repeat (first|refine Tw ?_|(refine Tm ?_;intro _)|exact Tz)
 done
theorem nK (e:Int):Fn Tryz.prog 58 [.int .i64 e,.bool false] Tr (Ex (fun s=>.iface 133 (pt (s 0))) (fun s=>[⟨s 0,135,[.int .i64 e]⟩]) (fun _=>True)):=by
 refine Fn.enter Tryz.func58 rfl rfl rfl ?_;intro w hw
 repeat (first|refine WO.does (vE (by kernel_rfl) rfl) ?_|refine Ta ?_|(refine Tm ?_;intro _)|refine Tc ?_|exact Tz)
 rename_i gE;exact WX.ret1 rfl (by exact zt rfl) [⟨gE,135,[.int .i64 e]⟩] (Lle.c Lle.nil) ⟨fun _=>gE,rfl,rfl,trivial⟩
end Sx
end
section
open Go Go.RowKit Go.BigFrame
namespace Sx
section
variable {P:Program} {w0:World} {gs:List Nat} {K:List (Nat × Value)} {L:List Ent}
theorem mM {x y:Operand} {t yt ty u:TypeId} {v:Value} (hx:ev K x=some (.iface u v)) (hy:ev K y=some .nilIface) (hr:∀ w,(binOp .neq t (.iface u v) .nilIface).run P w=.ok (.bool true) w) (hg:∀ w,(eqGuard .neq t x y (.iface u v) .nilIface).run P w=.ok () w):Does P w0 gs K L (.binOp .neq t x y yt) ty (.bool true):=by
 intro ac w hk _ o ho _;simp only[execOp,ho,hk.eval hx,hk.eval hy,Sem.run_bind,hg,Result.andThen_ok,hr,Sem.run_pure]
theorem nJ {x y:Operand} {t yt ty:TypeId} (hx:ev K x=some .nilIface) (hy:ev K y=some .nilIface) (hr:∀ w,(binOp .neq t .nilIface .nilIface).run P w=.ok (.bool false) w) (hg:∀ w,(eqGuard .neq t x y .nilIface .nilIface).run P w=.ok () w):Does P w0 gs K L (.binOp .neq t x y yt) ty (.bool false):=by
 intro ac w hk _ o ho _;simp only[execOp,ho,hk.eval hx,hk.eval hy,Sem.run_bind,hg,Result.andThen_ok,hr,Sem.run_pure]
end
theorem lp (v:Value) (w:World):(binOp .neq 127 (.iface 133 v) .nilIface).run Tryz.prog w=.ok (.bool true) w:=by kernel_rfl
theorem ln (w:World):(binOp .neq 127 .nilIface .nilIface).run Tryz.prog w=.ok (.bool false) w:=by kernel_rfl
theorem qL (x:Operand) (v:Value) (w:World):(eqGuard .neq 127 x (.const .nilIface) (.iface 133 v) .nilIface).run Tryz.prog w=.ok () w:=by kernel_rfl
theorem qI (w:World):(eqGuard .neq 127 (.tmp 14) (.const .nilIface) .nilIface .nilIface).run Tryz.prog w=.ok () w:=by kernel_rfl
def bD:Option Int→Value→List Ent→Prop
 | none=>fun v N=>v=.nilIface∧N=[]
 | some e=>fun v N=>∃ g,v=.iface 133 (pt g)∧N=[⟨g,135,[.int .i64 e]⟩]
abbrev fV (x:Nat × List Value):Value:=.func (.func x.1) #[] x.2.toArray
inductive aaI (R:World→Prop):List (Nat × List Value)→Option Int→Prop
 | nil:aaI R [] none
 | hit {f:Nat} {caps:List Value} {rest:List (Nat × List Value)} {e:Int}:Cal Tryz.prog f→Fn Tryz.prog f caps R (bD (some e))→aaI R ((f,caps)::rest) (some e)
 | go {f:Nat} {caps:List Value} {rest:List (Nat × List Value)} {r:Option Int}:Cal Tryz.prog f→Fn Tryz.prog f caps R (bD none)→aaI R rest r→aaI R ((f,caps)::rest) r
theorem vu (e:Int) (b:Bool):Fn Tryz.prog 58 [.int .i64 e,.bool b] Tr (bD (if b then none else some e)):=by
 cases b with
 | true=>exact fun w hw=>(mi e w hw).mono (by rintro en w1 ⟨v,N,h1,h2,h3,h4⟩;exact⟨v,[],h1,h2,iT.nil _ _,h4,rfl⟩)
 | false=>exact fun w hw=>(nK e w hw).mono (by rintro en w' ⟨v,N,h1,h2,h3,s,h4,h5,_⟩;exact⟨v,N,h1,h2,h3,s 0,h4,h5⟩)
attribute [local irreducible] wd DQ DQS WO WC WX WI
theorem acA {R:World→Prop} (hR:∀ w w',R w→Mod [] w w'→R w') (fs:List (Nat × List Value)) (r:Option Int) (gR c:Nat) (hn:fs.length≤100) (hA:aaI R fs r) :
  Fn Tryz.prog 56 [.slice (some ⟨gR,0,none⟩) fs.length c] (fun w=>Seg w gR 0 (fs.map fV)∧R w) (bD r):=by
 refine Fn.enter Tryz.func56 rfl rfl rfl ?_;intro w hw;obtain⟨hwF,hwR⟩:=hw
 repeat (first|refine Tw ?_|(refine Tm ?_;intro _)|exact Tz)
 refine WC.loopI (σ:=Nat) (fun i=>i≤fs.length∧aaI R (fs.drop i) r) (fun i=>[(6,.slice (some ⟨gR,0,none⟩) fs.length c),(7,.int .i64 (fs.length:Int)),(8,.int .i64 (i:Int))]) (fun _=>[]) (fun i=>fs.length - i) 0 (fun i hi=>?_) ⟨Nat.zero_le _,by simpa using hA⟩
 try dsimp only at hi ⊢
 obtain⟨hi,hAi⟩:=hi
 by_cases hlt:i<fs.length
 ·obtain⟨⟨f,caps⟩,hx⟩ : ∃ y,fs[i]?=some y:=⟨_,List.getElem?_eq_getElem hlt⟩;have hd:fs.drop i=(f,caps)::fs.drop (i+1):=by
   obtain⟨h1,h2⟩:=List.getElem?_eq_some_iff.1 hx;rw[List.drop_eq_getElem_cons hlt,h2]
  rw[hd] at hAi;have hcx:(fs.map fV)[0+i*1 - 0]?=some (fV (f,caps)):=by simp[hx]
  have hadd2:IntKind.i64.wrap ((i:Int)+1)=((i+1:Nat):Int):=zr (by omega) (by omega) (by omega)
  repeat (first|refine Tw ?_|(refine Tm ?_;intro _)|exact Tz)
  refine WC.dT rfl (by omega) ?_
  repeat (first|refine WO.does (zb (o':=0+i*1) rfl rfl hlt rfl) ?_|refine WO.does (zi (v:=fV (f,caps)) (hs:=hwF) (hle:=Nat.zero_le _) (hc:=hcx)) ?_|refine Ta ?_|(refine Tm ?_;intro _)|refine Tc ?_|exact Tz)
  cases hAi with
  | hit hCal hF =>
   refine WO.calls (fs:=[]) (cs:=caps) hF rfl rfl (by simp) (fun w1 hm=>hR _ _ hwR hm.mod) (fun v N hv=>?_);obtain⟨gE,rfl,rfl⟩:=hv
   try dsimp only[List.cons_append,List.nil_append]
   repeat (first|refine WO.does (mM rfl rfl (lp _) (qL _ _)) ?_|refine Ta ?_|(refine Tm ?_;intro _)|refine Tc ?_|exact Tz)
   exact WX.ret1 rfl (by exact zt rfl) [⟨gE,135,[.int .i64 _]⟩] (Lle.c Lle.nil) ⟨gE,rfl,rfl⟩
  | go hCal hF hAr =>
   refine WO.calls (fs:=[]) (cs:=caps) hF rfl rfl (by simp) (fun w1 hm=>hR _ _ hwR hm.mod) (fun v N hv=>?_);obtain⟨rfl,rfl⟩:=hv
   try dsimp only[List.cons_append,List.nil_append]
   repeat (first|refine WO.does (nJ rfl rfl ln qI) ?_|refine WO.does (zl rfl rfl hadd2) ?_|refine Ta ?_|(refine Tm ?_;intro _)|refine Tc ?_|exact Tz)
   exact WX.metI (i+1) (hs:=⟨⟨by omega,hAr⟩,by show fs.length - (i+1)<fs.length - i;omega⟩)
 ·have hi2:i=fs.length:=by omega
  subst hi2;rw[List.drop_length] at hAi;cases hAi
  repeat (first|refine Tw ?_|(refine Tm ?_;intro _)|exact Tz)
  refine WC.dF rfl (by omega) ?_
  repeat (first|refine Tw ?_|(refine Tm ?_;intro _)|exact Tz)
  exact WX.ret1 rfl (by exact zt rfl) [] Lle.nil ⟨rfl,rfl⟩
end Sx
end
section
open Go Go.RowKit Go.BigFrame
namespace Sx
attribute [local irreducible] DQ DQS WC WI WO WX wd
theorem Lle.left:∀ {N L:List Ent},Lle N (N++L)
 | [],_=>trivial
 | e::_,_=>⟨e.cs,_,Pk.here,rfl,Lle.left⟩
section
variable (p q g h:Nat) (f sec:Int) (pN pV pY pP:Option Addr) (cN cV cY cP:Nat) (N:List (Nat × Nat)) (ep d:Nat) (V Y:List Nat) (Pr:List (Nat × Nat)) (sC sS gS gD gg gn gi:Nat)
structure CkR (w:World):Prop where
 s:Seg w gS 0 (stC p q g h f sec (.slice pN N.length cN))
 d:Seg w gD 0 (dlC ep d (.slice pV V.length cV) (.slice pY Y.length cY) (.slice pP Pr.length cP) sC sS)
 g:Seg w gg 0 (zL p q g h)
 n:Seg w gn 0 [.int .i64 (N.length:Int)]
 i:Seg w gi 0 [.func (.func 51) #[] #[pt gg]]
 rN:RdF yw (.slice pN N.length cN) N w
 rV:RdF zc (.slice pV V.length cV) V w
 rY:RdF zc (.slice pY Y.length cY) Y w
 rP:RdF pfC (.slice pP Pr.length cP) Pr w
theorem CkR.mod {w w' : World} (k:CkR p q g h f sec pN pV pY pP cN cV cY cP N ep d V Y Pr sC sS gS gD gg gn gi w) (hm:Mod [] w w'):CkR p q g h f sec pN pV pY pP cN cV cY cP N ep d V Y Pr sC sS gS gD gg gn gi w':=⟨k.s.mod hm (by simp),k.d.mod hm (by simp),k.g.mod hm (by simp),k.n.mod hm (by simp),k.i.mod hm (by simp),k.rN.mod hm,k.rV.mod hm,k.rY.mod hm,k.rP.mod hm⟩
theorem ad2 (a:Nat) (ha:a<zd) (hp:p<zd) (hq:q<zd):Fn Tryz.prog 53 ([zj a]++[pt gg]) (fun w=>Seg w gg 0 (zL p q g h)) (Is (.bool (!gIn p q a))):=by
 have hI:=rL p q g h a ha hp hq;generalize gIn p q a=r at *;refine Fn.enter Tryz.func53 rfl rfl rfl ?_;intro w hw
 repeat (first|refine Ta ?_|(refine Tm ?_;intro _)|refine WO.acall (hc:=hI) (k:=?_)|refine Tc ?_|exact Tz)
 done
theorem adS (xs:List Nat) (b o c:Nat) (hx:∀ a∈xs,a<zd) (hn:xs.length≤1000) (hp:p<zd) (hq:q<zd):Fn Tryz.prog 51 ([.slice (some ⟨b,o,none⟩) xs.length c]++[pt gg]) (fun w=>Seg w b o (xs.flatMap zc)∧Seg w gg 0 (zL p q g h)) (Is (.bool (xs.all (gIn p q)))):=by
 have hC:=tT (f:=53) [pt gg] (fun a=>!gIn p q a) xs b o c (fun w=>Seg w gg 0 (zL p q g h)) yq.seg (by omega) (fun x h1=>ad2 p q g h gg x (hx x h1) hp hq);have e:xs.all (gIn p q) = !(xs.any fun a=>!gIn p q a):=by rw[List.any_eq_not_all_not];simp
 rw[e];generalize (xs.any fun a=>!gIn p q a)=r at *;refine Fn.enter Tryz.func51 rfl rfl rfl ?_;intro w hw;obtain⟨hw1,hw2⟩:=hw
 repeat (first|refine WO.does (zW rfl rfl) ?_|refine Ta ?_|(refine Tm ?_;intro _)|refine WO.acallR (hc:=hC) (hR:=fun w' hm=>⟨hw1.mod hm.mod (by simp),hw2.mod hm.mod (by simp)⟩) (k:=?_)|refine Tc ?_|exact Tz)
 done
theorem aeo (hp:p<zd) (hq:q<zd) (hg:g<zd) (hh:h<zd) (hN:yz N) (hNl:N.length≤1099511627776)
  (hf1 : -9223372036854775808≤f) (hf2:f≤9223372036854775807) (hs1 : -9223372036854775808≤sec) (hs2:sec≤9223372036854775807) :
  Fn Tryz.prog 57 [pt gS] (CkR p q g h f sec pN pV pY pP cN cV cY cP N ep d V Y Pr sC sS gS gD gg gn gi) (bD (if uc p q g h f sec N then none else some 1)):=by
 have hS:=tN p q g h f sec pN cN N hp hq hg hh hN hNl hf1 hf2 hs1 hs2;generalize uc p q g h f sec N=r at *;refine Fn.enter Tryz.func57 rfl rfl rfl ?_;intro w hw;have hsS:=hw.s
 repeat (first|refine WO.does (zn (vs:=stC p q g h f sec (.slice pN N.length cN)) (hs:=hsS)) ?_|refine Ta ?_|(refine Tm ?_;intro _)|refine WO.acallR (hc:=hS) (hR:=fun w' hm=>(hw.rN.mod hm.mod)) (k:=?_)|refine Tc ?_|exact Tz)
 refine WO.calls (fs:=[]) (cs:=[]) (vu 1 r) rfl rfl rfl (fun _ _=>trivial) (fun v N hv=>?_)
 repeat (first|refine Tw ?_|(refine Tm ?_;intro _)|exact Tz)
 exact WX.ret1 rfl (by exact zt rfl) N Lle.left hv
def shB (p q:Nat) (N:List (Nat × Nat)) (d:Nat) (V Y:List Nat) (Pr:List (Nat × Nat)):Bool:=o7 d N && decide (V.length=N.length) && decide (Y.length=N.length) && decide (Pr.length=N.length) && V.all (gIn p q) && Y.all (gIn p q)
theorem aeq (hp:p<zd) (hq:q<zd) (hd:d<256) (hNl:N.length≤100) (hN1:1≤N.length) (hVl:V.length≤1000) (hYl:Y.length≤1000) (hPl:Pr.length≤1000) (hV:∀ a∈V,a<zd) (hY:∀ a∈Y,a<zd) :
  Fn Tryz.prog 59 [pt gS,pt gD,pt gn,pt gi] (CkR p q g h f sec pN pV pY pP cN cV cY cP N ep d V Y Pr sC sS gS gD gg gn gi) (bD (if shB p q N d V Y Pr then none else some 4)):=by
 have hNo:=aaq p q g h f sec pN cN N d hd (by omega);refine Fn.enter Tryz.func59 rfl rfl rfl ?_;intro w hw;have hsS:=hw.s;have hsD:=hw.d;have hsn:=hw.n;have hsi:=hw.i;unfold shB;cases e1:o7 d N with
 | false =>
  rw[e1] at hNo
  repeat (first|refine WO.does (zn (vs:=stC p q g h f sec (.slice pN N.length cN)) (hs:=hsS)) ?_|refine WO.does (zi (hs:=hsD)) ?_|refine WO.does (zi (hs:=hsn)) ?_|refine WO.does (zi (hs:=hsi)) ?_|refine WO.does (yf rfl rfl (by omega)) ?_|refine WO.does (yn rfl rfl (by omega)) ?_|refine Ta ?_|(refine Tm ?_;intro _)|refine WO.acall (hc:=hNo) (k:=?_)|refine Tc ?_|exact Tz)
  refine WO.calls (fs:=[]) (cs:=[]) (vu 4 false) rfl rfl rfl (fun _ _=>trivial) (fun v N' hv=>?_)
  repeat (first|refine Tw ?_|(refine Tm ?_;intro _)|exact Tz)
  exact WX.ret1 rfl (by exact zt rfl) N' Lle.left hv
 | true =>
 rw[e1] at hNo
 by_cases e2:V.length=N.length
 case neg =>
  rw[decide_eq_false e2]
  repeat (first|refine WO.does (zn (vs:=stC p q g h f sec (.slice pN N.length cN)) (hs:=hsS)) ?_|refine WO.does (zi (hs:=hsD)) ?_|refine WO.does (zi (hs:=hsn)) ?_|refine WO.does (zi (hs:=hsi)) ?_|refine WO.does (yf rfl rfl (by omega)) ?_|refine WO.does (yn rfl rfl (by omega)) ?_|refine Ta ?_|(refine Tm ?_;intro _)|refine WO.acall (hc:=hNo) (k:=?_)|refine Tc ?_|exact Tz)
  simp only[Bool.and_false,Bool.false_and];refine WO.calls (fs:=[]) (cs:=[]) (vu 4 false) rfl rfl rfl (fun _ _=>trivial) (fun v N' hv=>?_)
  repeat (first|refine Tw ?_|(refine Tm ?_;intro _)|exact Tz)
  exact WX.ret1 rfl (by exact zt rfl) N' Lle.left hv
 by_cases e3:Y.length=N.length
 case neg =>
  rw[decide_eq_false e3]
  repeat (first|refine WO.does (zn (vs:=stC p q g h f sec (.slice pN N.length cN)) (hs:=hsS)) ?_|refine WO.does (zi (hs:=hsD)) ?_|refine WO.does (zi (hs:=hsn)) ?_|refine WO.does (zi (hs:=hsi)) ?_|refine WO.does (yf rfl rfl (by omega)) ?_|refine WO.does (yn rfl rfl (by omega)) ?_|refine Ta ?_|(refine Tm ?_;intro _)|refine WO.acall (hc:=hNo) (k:=?_)|refine Tc ?_|exact Tz)
  simp only[Bool.and_false,Bool.false_and];refine WO.calls (fs:=[]) (cs:=[]) (vu 4 false) rfl rfl rfl (fun _ _=>trivial) (fun v N' hv=>?_)
  repeat (first|refine Tw ?_|(refine Tm ?_;intro _)|exact Tz)
  exact WX.ret1 rfl (by exact zt rfl) N' Lle.left hv
 by_cases e4:Pr.length=N.length
 case neg =>
  rw[decide_eq_false e4]
  repeat (first|refine WO.does (zn (vs:=stC p q g h f sec (.slice pN N.length cN)) (hs:=hsS)) ?_|refine WO.does (zi (hs:=hsD)) ?_|refine WO.does (zi (hs:=hsn)) ?_|refine WO.does (zi (hs:=hsi)) ?_|refine WO.does (yf rfl rfl (by omega)) ?_|refine WO.does (yn rfl rfl (by omega)) ?_|refine Ta ?_|(refine Tm ?_;intro _)|refine WO.acall (hc:=hNo) (k:=?_)|refine Tc ?_|exact Tz)
  simp only[Bool.and_false,Bool.false_and];refine WO.calls (fs:=[]) (cs:=[]) (vu 4 false) rfl rfl rfl (fun _ _=>trivial) (fun v N' hv=>?_)
  repeat (first|refine Tw ?_|(refine Tm ?_;intro _)|exact Tz)
  exact WX.ret1 rfl (by exact zt rfl) N' Lle.left hv
 obtain⟨x0,hx0⟩ : ∃ x,V[0]?=some x:=⟨_,List.getElem?_eq_getElem (by omega)⟩;obtain⟨y0,hy0⟩ : ∃ x,Y[0]?=some x:=⟨_,List.getElem?_eq_getElem (by omega)⟩;obtain⟨bV,oV,eV,_,hVs⟩:=hw.rV.get hx0;obtain⟨bY,oY,eY,_,hYs⟩:=hw.rY.get hy0;subst eV eY;have hC1:=adS p q g h gg V bV oV cV hV hVl hp hq;have hC2:=adS p q g h gg Y bY oY cY hY hYl hp hq;rw[decide_eq_true e2,decide_eq_true e3,decide_eq_true e4];cases e5:V.all (gIn p q) with
 | false =>
  rw[e5] at hC1
  repeat (first|refine WO.does (zn (vs:=stC p q g h f sec (.slice pN N.length cN)) (hs:=hsS)) ?_|refine WO.does (zi (hs:=hsD)) ?_|refine WO.does (zi (hs:=hsn)) ?_|refine WO.does (zi (hs:=hsi)) ?_|refine WO.does (yf rfl rfl (by omega)) ?_|refine WO.does (yn rfl rfl (by omega)) ?_|refine Ta ?_|(refine Tm ?_;intro _)|refine WO.acall (hc:=hNo) (k:=?_)|refine WO.acallV (hc:=hC1) (hR:=fun w' hm=>⟨hVs.mod hm.mod (by simp),hw.g.mod hm.mod (by simp)⟩) (k:=?_)|refine Tc ?_|exact Tz)
  simp only[Bool.and_false,Bool.false_and];refine WO.calls (fs:=[]) (cs:=[]) (vu 4 false) rfl rfl rfl (fun _ _=>trivial) (fun v N' hv=>?_)
  repeat (first|refine Tw ?_|(refine Tm ?_;intro _)|exact Tz)
  exact WX.ret1 rfl (by exact zt rfl) N' Lle.left hv
 | true =>
 rw[e5] at hC1;generalize Y.all (gIn p q)=r at *
 repeat (first|refine WO.does (zn (vs:=stC p q g h f sec (.slice pN N.length cN)) (hs:=hsS)) ?_|refine WO.does (zi (hs:=hsD)) ?_|refine WO.does (zi (hs:=hsn)) ?_|refine WO.does (zi (hs:=hsi)) ?_|refine WO.does (yf rfl rfl (by omega)) ?_|refine WO.does (yn rfl rfl (by omega)) ?_|refine Ta ?_|(refine Tm ?_;intro _)|refine WO.acall (hc:=hNo) (k:=?_)|refine WO.acallV (hc:=hC1) (hR:=fun w' hm=>⟨hVs.mod hm.mod (by simp),hw.g.mod hm.mod (by simp)⟩) (k:=?_)|refine WO.acallV (hc:=hC2) (hR:=fun w' hm=>⟨hYs.mod hm.mod (by simp),hw.g.mod hm.mod (by simp)⟩) (k:=?_)|refine Tc ?_|exact Tz)
 simp only[Bool.and_true,Bool.true_and];refine WO.calls (fs:=[]) (cs:=[]) (vu 4 r) rfl rfl rfl (fun _ _=>trivial) (fun v N' hv=>?_)
 repeat (first|refine Tw ?_|(refine Tm ?_;intro _)|exact Tz)
 exact WX.ret1 rfl (by exact zt rfl) N' Lle.left hv
end
section
variable (p q g h:Nat) (f sec:Int) (pN pV pY pP:Option Addr) (cN cV cY cP:Nat) (N:List (Nat × Nat)) (ep d:Nat) (V Y:List Nat) (Pr:List (Nat × Nat)) (sC sS gS gD gg gn gi:Nat)
theorem aeG (n c:Nat) (hNn:N.length=n) (hfs:f+sec=(c:Int)) (hVn:V.length=n) (hn1:1≤n) (hn7:n≤7) (hc1:1≤c) (hcn:c≤n) (hnq:n<q) (hq:q<zd) (hp:p<zd) (h1p:1<p) (hV:acM p V) :
  Fn Tryz.prog 60 [pt gg,pt gD,pt gS] (CkR p q g h f sec pN pV pY pP cN cV cY cP N ep d V Y Pr sC sS gS gD gg gn gi) (bD (if duB p q n c V then none else some 12)):=by
 refine Fn.enter Tryz.func60 rfl rfl rfl ?_;intro w hw;obtain⟨x0,hx0⟩ : ∃ x,V[0]?=some x:=⟨_,List.getElem?_eq_getElem (by omega)⟩;obtain⟨bV,oV,eV,_,hVs⟩:=hw.rV.get hx0;subst eV;have hlV:bV<w.heap.size:=RdF.lt (k:=3) (fun _=>rfl) hw.rV (by rintro rfl;simp at hx0);have hD:=cI p q g h V n cV c bV oV hVn hn1 hn7 hc1 hcn hnq hq hp h1p hV;have hsS:=hw.s;have hsD:=hw.d;have hsg:=hw.g;rw[hVn] at hsD;have hadd:IntKind.i64.wrap (f+sec)=(c:Int):=by rw[hfs];exact i64_in (by omega) (by omega)
 generalize duB p q n c V=b at *
 repeat (first|refine WO.does (zn (vs:=zL p q g h) (hs:=hsg)) ?_|refine WO.does (zi (hs:=hsD)) ?_|refine WO.does (zi (hs:=hsS)) ?_|refine WO.does (zl rfl rfl hadd) ?_|refine Ta ?_|(refine Tm ?_;intro _)|refine Tc ?_|exact Tz)
 refine WO.calls (fs:=[]) (cs:=[]) hD rfl rfl rfl (fun w1 hm=>⟨hVs.mod hm.mod (by simp),Nat.lt_of_lt_of_le hlV hm.mod.size⟩) (fun v N1 hv=>?_);obtain⟨e,rfl,he,rfl⟩:=hv;cases b with
 | true =>
  obtain rfl:=he rfl
  repeat (first|refine WO.does (yf rfl rfl rfl) ?_|refine Ta ?_|(refine Tm ?_;intro _)|refine Tc ?_|exact Tz)
  refine WO.calls (fs:=[]) (cs:=[]) (vu 12 true) rfl rfl rfl (fun _ _=>trivial) (fun v N' hv=>?_)
  repeat (first|refine Tw ?_|(refine Tm ?_;intro _)|exact Tz)
  exact WX.ret1 rfl (by exact zt rfl) N' Lle.left hv
 | false =>
  repeat (first|refine Tw ?_|(refine Tm ?_;intro _)|exact Tz)
  refine WO.calls (fs:=[]) (cs:=[]) (vu 12 false) rfl rfl rfl (fun _ _=>trivial) (fun v N' hv=>?_)
  repeat (first|refine Tw ?_|(refine Tm ?_;intro _)|exact Tz)
  exact WX.ret1 rfl (by exact zt rfl) N' Lle.left hv
theorem aeK (k:Nat × Nat) (hk:N[d - 1]?=some k) (hd1:1≤d) (hd:d<256) (hV0:V≠[]) (hY0:Y≠[]) (hP0:Pr≠[]) (hVl:V.length≤1000) (hYl:Y.length≤1000) (hPl:Pr.length≤1000) (hk1:k.1<zd) (hk2:k.2<zd)
  (hp:p<zd) (hq:q<zd) (hg:g<zd) (hC:sC<zd) (hS:sS<zd) (hgm:yB p g=true) (hHl:(yX ep d V Y Pr).length=32) (hHb:∀ b∈yX ep d V Y Pr,b<256) :
  Fn Tryz.prog 64 [pt gg,pt gS,pt gD] (CkR p q g h f sec pN pV pY pP cN cV cY cP N ep d V Y Pr sC sS gS gD gg gn gi) (bD (if nj p q g k.1 sC sS (yX ep d V Y Pr) then none else some 10)):=by
 have hH:=aC ep d sC sS pV pY pP cV cY cP V Y Pr hd hVl hYl hPl;have hSg:=iW p q g h k.1 sC sS (yX ep d V Y Pr) hp hq hg hk1 hC hS hHb hHl hgm;generalize yX ep d V Y Pr=H at *;generalize nj p q g k.1 sC sS H=b at *;have hbH:(byC H).length=32:=by rw[zh,hHl]
 refine Fn.enter Tryz.func64 rfl rfl rfl ?_;intro w hw;obtain⟨bN,oN,eN,_,hNs⟩:=hw.rN.get hk;subst eN;have hlt:d - 1<N.length:=by
  rcases Nat.lt_or_ge (d - 1) N.length with h1|h1
  ·exact h1
  ·rw[List.getElem?_eq_none h1] at hk;cases hk
 have hsS:=hw.s;have hsD:=hw.d;have hsg:=hw.g;have hsub:IntKind.u8.wrap ((d:Int) - 1)=((d - 1:Nat):Int):=by simp[IntKind.wrap,IntKind.signed,IntKind.bits];omega
 have hcK:=zX vX hk;have hcx:cut (N.flatMap yw) (oN+(d - 1)*8 - oN) 4=zc k.1:=by
  rw[Nat.add_sub_cancel_left];have:cut (cut (N.flatMap yw) ((d - 1)*8) 8) 0 4=cut (N.flatMap yw) ((d - 1)*8) 4:=by unfold cut;rw[List.drop_zero,List.take_take];rfl
  rw[← this,hcK];rfl
 obtain⟨key,k2⟩:=k;dsimp only at *
 repeat (first|refine Tw ?_|(refine Tm ?_;intro _)|exact Tz)
 refine WC.adraw 16 (k:=?_);refine DQ.does (fun s _=>zn (vs:=zL p q g h) (hs:=hsg)) Dp.const ?_
 iterate 1 (first|refine Da ?_|refine Dc ?_)
 refine DQ.does (fun s _=>zi (hs:=hsS)) Dp.const ?_
 iterate 1 (first|refine Da ?_|refine Dc ?_)
 refine DQ.does (fun s _=>zi (hs:=hsD)) Dp.const ?_;refine DQ.does (fun s _=>zH rfl rfl hsub) Dp.const ?_;refine DQ.does (fun s _=>zb (o':=oN+(d - 1)*8) rfl rfl hlt rfl) Dp.const ?_
 iterate 1 (first|refine Da ?_|refine Dc ?_)
 refine DQ.does (fun s _=>zn (vs:=zc key) (hs:=hNs) (hle:=Nat.le_add_right _ _) (hc:=hcx)) Dp.const ?_;refine DQ.does (fun s _=>zn (vs:=dlC ep d (.slice pV V.length cV) (.slice pY Y.length cY) (.slice pP Pr.length cP) sC sS) (hs:=hsD)) Dp.const ?_;refine DQ.acallM (hc:=hH) (hR:=fun w1 hm=>⟨hw.rV.mod hm.mod,hw.rY.mod hm.mod,hw.rP.mod hm.mod⟩) (k:=?_)
 iterate 1 (first|refine Da ?_|refine Dc ?_)
 refine DQ.does (fun s _=>zn (vs:=ui sC sS) (hs:=hsD)) Dp.const ?_;refine DQ.acallM (hc:=hSg) (hR:=fun _ _=>trivial) (k:=?_);cases b with
 | true =>
  refine DQ.acallM (hc:=mi 10) (hR:=fun _ _=>trivial) (k:=?_)
  iterate 1 (first|refine Da ?_|refine Dc ?_)
  refine DQ.anil (k:=?_);intro sx _
  repeat (first|refine Tw ?_|(refine Tm ?_;intro _)|exact Tz)
  exact WX.ret1 rfl (by exact zt rfl) [] Lle.nil ⟨rfl,rfl⟩
 | false =>
  refine DQ.callsE (fs:=fun _=>[]) (cs:=fun _=>[]) (R:=fun _=>Tr) (vf:=fun _ x=>.iface 133 (pt (x 0))) (Nf:=fun _ x=>[⟨x 0,135,[.int .i64 10]⟩]) (S:=fun _ _=>True) (fun _=>[]) (fun _=>.nil)
   (fun _=>⟨fun _=>0,trivial⟩) (fun _ _=>nK 10) (fun _=>rfl) (fun _=>rfl) (fun _=>rfl) (fun _ _ w hm=>trivial) Dp.const Dp.const Dp.const ?_
  try dsimp only[List.map_cons,List.map_nil,List.cons_append,List.nil_append]
  iterate 1 (first|refine Da ?_|refine Dc ?_)
  refine DQ.anil (k:=?_);intro sx _
  repeat (first|refine Tw ?_|(refine Tm ?_;intro _)|exact Tz)
  exact WX.ret1 rfl (by exact zt rfl) _ (Lle.c Lle.nil) ⟨_,rfl,rfl⟩
end
def aeI:ByteArray:=⟨#[115,104,97,114,101]⟩
def pfB (p q g:Nat) (N:List (Nat × Nat)) (V Y:List Nat) (Pr:List (Nat × Nat)) (i:Nat):Bool:=ckB p q (yj aeI) g (V[i]?.getD 0) (N[i]?.getD (0,0)).2 (Y[i]?.getD 0) (Pr[i]?.getD (0,0)).1 (Pr[i]?.getD (0,0)).2
def aao (p q g:Nat) (N:List (Nat × Nat)) (V Y:List Nat) (Pr:List (Nat × Nat)):Bool:=(List.range Pr.length).all (pfB p q g N V Y Pr)
theorem abi {P:Nat→Bool} {n i:Nat} (hi:i<n) (h:P i=false):(List.range n).all P=false:=by
 rw[List.all_eq_false];exact⟨i,List.mem_range.2 hi,by simp[h]⟩
theorem aa {α:Type} {f:α→List Value} {m k o:Nat} {xs:List α} {i:Nat} {x:α} (hk:∀ x,(f x).length=k) (hx:xs[i]?=some x) (hm:o+m≤k):cut (xs.flatMap f) (i*k+o) m=cut (f x) o m:=by
 rw[← zX hk hx];unfold cut;rw[List.drop_take,List.take_take,List.drop_drop,Nat.min_eq_left (by omega)]
section
variable (p q g h:Nat) (f sec:Int) (pN pV pY pP:Option Addr) (cN cV cY cP:Nat) (N:List (Nat × Nat)) (ep d:Nat) (V Y:List Nat) (Pr:List (Nat × Nat)) (sC sS gS gD gg gn gi:Nat)
theorem aev (hVn:V.length=Pr.length) (hYn:Y.length=Pr.length) (hNn:N.length=Pr.length) (hP7:Pr.length≤7) (hN:yz N) (hV:∀ a∈V,a<zd) (hY:∀ a∈Y,a<zd) (hPr:yz Pr) (hp:p<zd) (hq:q<zd) (hg:g<zd) :
  Fn Tryz.prog 62 [pt gD,pt gg,pt gS] (CkR p q g h f sec pN pV pY pP cN cV cY cP N ep d V Y Pr sC sS gS gD gg gn gi) (bD (if aao p q g N V Y Pr then none else some 11)):=by
 refine Fn.enter Tryz.func62 rfl rfl rfl ?_;intro w hw;have hsS:=hw.s;have hsD:=hw.d;have hsg:=hw.g
 repeat (first|refine WO.does (zi (hs:=hsD)) ?_|refine Ta ?_|(refine Tm ?_;intro _)|refine Tc ?_|exact Tz)
 refine WC.loopI (σ:=Nat) (fun i=>i≤Pr.length∧∀ j,j<i→pfB p q g N V Y Pr j=true) (fun i=>[(0,pt gD),(1,pt gg),(2,pt gS),(7,.slice pP Pr.length cP),(8,.int .i64 (Pr.length:Int)),(9,.int .i64 (i:Int))]) (fun _=>[]) (fun i=>Pr.length - i) 0 (fun i hi=>?_) ⟨Nat.zero_le _,fun j hj=>absurd hj (Nat.not_lt_zero _)⟩
 try dsimp only at hi ⊢
 obtain⟨hi,h0⟩:=hi
 by_cases hlt:i<Pr.length
 ·obtain⟨x,hx⟩ : ∃ y,V[i]?=some y:=⟨_,List.getElem?_eq_getElem (by omega)⟩;obtain⟨y,hy⟩ : ∃ z,Y[i]?=some z:=⟨_,List.getElem?_eq_getElem (by omega)⟩;obtain⟨k,hk⟩ : ∃ z,N[i]?=some z:=⟨_,List.getElem?_eq_getElem (by omega)⟩;obtain⟨pr,hpr⟩ : ∃ z,Pr[i]?=some z:=⟨_,List.getElem?_eq_getElem (by omega)⟩;obtain⟨bV,oV,eV,_,hVs⟩:=hw.rV.get hx;obtain⟨bY,oY,eY,_,hYs⟩:=hw.rY.get hy;obtain⟨bN,oN,eN,_,hNs⟩:=hw.rN.get hk;obtain⟨bP,oP,eP,_,hPs⟩:=hw.rP.get hpr;subst eV eY eN eP;have hcV:cut (V.flatMap zc) (oV+i*4 - oV) 4=zc x:=by rw[Nat.add_sub_cancel_left];exact zX ym hx
  have hcY:cut (Y.flatMap zc) (oY+i*4 - oY) 4=zc y:=by rw[Nat.add_sub_cancel_left];exact zX ym hy
  have hcP:cut (Pr.flatMap pfC) (oP+i*8 - oP) 8=pfC pr:=by rw[Nat.add_sub_cancel_left];exact zX r9 hpr
  have hcN:cut (N.flatMap yw) (oN+i*8+4 - oN) 4=zc k.2:=by
   rw[Nat.add_assoc,Nat.add_sub_cancel_left,aa vX hk (by decide)];rfl
  have hadd2:IntKind.i64.wrap ((i:Int)+1)=((i+1:Nat):Int):=zr (by omega) (by omega) (by omega);have hC:=aa8 p q g h aeI g x k.2 y pr.1 pr.2 hp hq hg (hV _ (List.mem_of_getElem? hx)) (hN _ (List.mem_of_getElem? hk)).2 (hY _ (List.mem_of_getElem? hy)) (hPr _ (List.mem_of_getElem? hpr)).1 (hPr _ (List.mem_of_getElem? hpr)).2 (by decide);have hb:ckB p q (yj aeI) g x k.2 y pr.1 pr.2=pfB p q g N V Y Pr i:=by unfold pfB;rw[hx,hy,hk,hpr];rfl
  rw[hb] at hC;cases hr:pfB p q g N V Y Pr i with
  | true =>
   rw[hr] at hC
   repeat (first|refine Tw ?_|(refine Tm ?_;intro _)|exact Tz)
   refine WC.dT rfl (by omega) ?_
   repeat (first|refine WO.does (zb (o':=oP+i*8) rfl rfl hlt rfl) ?_|refine WO.does (zn (vs:=pfC pr) (hs:=hPs) (hle:=Nat.le_add_right _ _) (hc:=hcP)) ?_|refine Ta ?_|(refine Tm ?_;intro _)|refine Tc ?_|exact Tz)
   refine WC.adraw 22 (k:=?_);refine DQ.does (fun s _=>zn (vs:=zL p q g h) (hs:=hsg)) Dp.const ?_
   iterate 1 (first|refine Da ?_|refine Dc ?_)
   refine DQ.does (fun s _=>zn (vs:=zc g) (hs:=hsg)) Dp.const ?_
   iterate 1 (first|refine Da ?_|refine Dc ?_)
   refine DQ.does (fun s _=>zi (hs:=hsD)) Dp.const ?_
   iterate 1 (first|refine Da ?_|refine Dc ?_)
   refine DQ.does (fun s _=>zb (o':=oV+i*4) rfl rfl (by omega) rfl) Dp.const ?_;refine DQ.does (fun s _=>zn (vs:=zc x) (hs:=hVs) (hle:=Nat.le_add_right _ _) (hc:=hcV)) Dp.const ?_
   iterate 1 (first|refine Da ?_|refine Dc ?_)
   refine DQ.does (fun s _=>zi (hs:=hsS)) Dp.const ?_
   iterate 1 (first|refine Da ?_|refine Dc ?_)
   refine DQ.does (fun s _=>zb (o':=oN+i*8) rfl rfl (by omega) rfl) Dp.const ?_
   iterate 1 (first|refine Da ?_|refine Dc ?_)
   refine DQ.does (fun s _=>zn (vs:=zc k.2) (hs:=hNs) (hle:=by omega) (hc:=hcN)) Dp.const ?_
   iterate 1 (first|refine Da ?_|refine Dc ?_)
   refine DQ.does (fun s _=>zi (hs:=hsD)) Dp.const ?_
   iterate 1 (first|refine Da ?_|refine Dc ?_)
   refine DQ.does (fun s _=>zb (o':=oY+i*4) rfl rfl (by omega) rfl) Dp.const ?_;refine DQ.does (fun s _=>zn (vs:=zc y) (hs:=hYs) (hle:=Nat.le_add_right _ _) (hc:=hcY)) Dp.const ?_;refine DQ.does (fun s _=>zy (vs:=pfC pr) (hc:=rfl)) Dp.const ?_;refine DQ.acallM (hc:=hC) (hR:=fun _ _=>trivial) (k:=?_)
   iterate 1 (first|refine Da ?_|refine Dc ?_)
   refine DQ.anil (k:=?_);intro sx _
   repeat (first|refine WO.does (zl rfl rfl hadd2) ?_|refine Ta ?_|(refine Tm ?_;intro _)|refine Tc ?_|exact Tz)
   exact WX.metI (i+1) (hs:=⟨⟨by omega,fun j hj=>by
    by_cases e:j=i
    ·subst e;exact hr
    ·exact h0 j (by omega)⟩,by show Pr.length - (i+1)<Pr.length - i;omega⟩)
  | false =>
   rw[hr] at hC;rw[show aao p q g N V Y Pr=false from abi hlt hr]
   repeat (first|refine Tw ?_|(refine Tm ?_;intro _)|exact Tz)
   refine WC.dT rfl (by omega) ?_
   repeat (first|refine WO.does (zb (o':=oP+i*8) rfl rfl hlt rfl) ?_|refine WO.does (zn (vs:=pfC pr) (hs:=hPs) (hle:=Nat.le_add_right _ _) (hc:=hcP)) ?_|refine Ta ?_|(refine Tm ?_;intro _)|refine Tc ?_|exact Tz)
   refine WC.adraw 22 (k:=?_);refine DQ.does (fun s _=>zn (vs:=zL p q g h) (hs:=hsg)) Dp.const ?_
   iterate 1 (first|refine Da ?_|refine Dc ?_)
   refine DQ.does (fun s _=>zn (vs:=zc g) (hs:=hsg)) Dp.const ?_
   iterate 1 (first|refine Da ?_|refine Dc ?_)
   refine DQ.does (fun s _=>zi (hs:=hsD)) Dp.const ?_
   iterate 1 (first|refine Da ?_|refine Dc ?_)
   refine DQ.does (fun s _=>zb (o':=oV+i*4) rfl rfl (by omega) rfl) Dp.const ?_;refine DQ.does (fun s _=>zn (vs:=zc x) (hs:=hVs) (hle:=Nat.le_add_right _ _) (hc:=hcV)) Dp.const ?_
   iterate 1 (first|refine Da ?_|refine Dc ?_)
   refine DQ.does (fun s _=>zi (hs:=hsS)) Dp.const ?_
   iterate 1 (first|refine Da ?_|refine Dc ?_)
   refine DQ.does (fun s _=>zb (o':=oN+i*8) rfl rfl (by omega) rfl) Dp.const ?_
   iterate 1 (first|refine Da ?_|refine Dc ?_)
   refine DQ.does (fun s _=>zn (vs:=zc k.2) (hs:=hNs) (hle:=by omega) (hc:=hcN)) Dp.const ?_
   iterate 1 (first|refine Da ?_|refine Dc ?_)
   refine DQ.does (fun s _=>zi (hs:=hsD)) Dp.const ?_
   iterate 1 (first|refine Da ?_|refine Dc ?_)
   refine DQ.does (fun s _=>zb (o':=oY+i*4) rfl rfl (by omega) rfl) Dp.const ?_;refine DQ.does (fun s _=>zn (vs:=zc y) (hs:=hYs) (hle:=Nat.le_add_right _ _) (hc:=hcY)) Dp.const ?_;refine DQ.does (fun s _=>zy (vs:=pfC pr) (hc:=rfl)) Dp.const ?_;refine DQ.acallM (hc:=hC) (hR:=fun _ _=>trivial) (k:=?_)
   iterate 1 (first|refine Da ?_|refine Dc ?_)
   refine DQ.anil (k:=?_);intro sx _
   repeat (first|refine WO.does (vE (by kernel_rfl) rfl) ?_|refine Ta ?_|(refine Tm ?_;intro _)|refine Tc ?_|exact Tz)
   exact WX.ret1 rfl (by exact zt rfl) [⟨_,135,[.int .i64 11]⟩] (Lle.c Lle.nil) ⟨_,rfl,rfl⟩
 ·have hi2:i=Pr.length:=by omega
  have hall:aao p q g N V Y Pr=true:=by
   unfold aao;rw[List.all_eq_true];exact fun j hj=>h0 j (by have:=List.mem_range.1 hj;omega)
  rw[hall]
  repeat (first|refine Tw ?_|(refine Tm ?_;intro _)|exact Tz)
  refine WC.dF rfl (by omega) ?_
  repeat (first|refine Tw ?_|(refine Tm ?_;intro _)|exact Tz)
  exact WX.ret1 rfl (by exact zt rfl) [] Lle.nil ⟨rfl,rfl⟩
end
end Sx
end
section
open Go Go.RowKit Go.BigFrame
namespace Sx
section
variable (p q g h:Nat) (f sec:Int) (N:List (Nat × Nat)) (ep d:Nat) (V Y:List Nat) (Pr:List (Nat × Nat)) (sC sS:Nat)
def ckE:Option Int:=if uc p q g h f sec N then (if shB p q N d V Y Pr then (if duB p q N.length (f+sec).toNat V then (if aao p q g N V Y Pr then (if nj p q g (N[d - 1]?.getD (0,0)).1 sC sS (yX ep d V Y Pr) then none else some 10) else some 11) else some 12) else some 4) else some 1
end
theorem uu {a q:Nat} (h1:1<q) (h2:a<q):zJ a a q=true:=by unfold zJ;simp[h1,h2]
theorem aen {q a b:Nat} (h1:1<q) (ha:a<q) (hb:b<q):([a,b].all fun x=>zJ x x q)=true:=by simp[uu h1 ha,uu h1 hb]
theorem kC {q x:Nat} {H:List Nat} (h1:1<q):vp q x H<q∧vp q x H≠0:=by
 unfold vp;split
 ·exact⟨h1,by decide⟩
 ·rename_i h;exact⟨vZ (by omega) _ _,h⟩
theorem eM {p q a:Nat} (h:kB p q a=true):gIn p q a=true∧a≠1:=by
 unfold kB at h;simpa using h
section
variable {p q g h:Nat} {f sec:Int} {N:List (Nat × Nat)} {ep d x:Nat} {l:List Nat}
theorem mL (hS:uc p q g h f sec N=true):kB p q g=true∧(∀ i,i<N.length→kB p q (N.getD i (0,0)).1=true∧kB p q (N.getD i (0,0)).2=true)∧N.length<8∧(N.length:Int)+sec<(q:Int)∧0≤f∧1≤sec:=by
 unfold uc at hS;simp only[Bool.and_eq_true,decide_eq_true_eq] at hS;obtain⟨⟨⟨⟨⟨⟨⟨⟨⟨⟨h1,h2⟩,h3⟩,h4⟩,h5⟩,h6⟩,h7⟩,h8⟩,h9⟩,h10⟩,h11⟩:=hS;refine⟨h9,fun i hi=>?_,by omega,h8,h1,h3⟩;have:=List.all_eq_true.1 h11 N[i] (List.getElem_mem hi);rw[List.getD_eq_getElem?_getD,List.getElem?_eq_getElem hi];simpa using this
theorem abB {k y draw:Nat} (hg:gIn p q g=true) (hy:gIn p q y=true) (h1:1<q) (hk:k<q) (hd:draw<q∧draw≠0) :
  ckB p q (yj uF) g (g ^ k%p) y (y ^ k%p) (pfN p q g k y draw).1 (pfN p q g k y draw).2=true:=by
 have hB:prB p q k g y draw=true:=by
  unfold prB;rw[vm hg,vm hy,uu h1 hk,uu h1 hd.1];simp[hd.2]
 unfold pfN;rw[hB,re,re];have hc:prC p q (yj uF) k g y draw<q:=vZ (by omega) _ _;have e1:=oG (x:=k) hg hc hd.1;have e2:=oG (x:=k) hy hc hd.1;dsimp only;generalize hC:prC p q (yj uF) k g y draw=c at *;unfold ckB;rw[hg,o6 hg (by omega),hy,o6 hy (by omega),uu h1 hc,uu h1 (Nat.mod_lt _ (by omega))];simp only[Bool.true_and,Bool.and_true,decide_eq_true_eq];unfold ckC vW;rw[e1,e2,← hC];rfl
theorem aeV {key draw c:Nat} {H:List Nat} (hg:gIn p q g=true) (hk:gIn p q key=true) (hk1:key≠1) (h1:1<q) (e:g ^ x%p=key) (hd:draw<q) (hc:c<q) (hC:c=ew q key (g ^ draw%p) H) :
  nj p q g key c ((draw+x*c%q)%q) H=true:=by
 have e1:=oG (x:=x) hg hc hd;rw[e] at e1;have e2:prD p [g,key] [(draw+x*c%q)%q,(0+q - c)%q]=g ^ draw%p:=by
  unfold prD;simp only[List.zip_cons_cons,List.zip_nil_left,List.foldl_cons,List.foldl_nil,Nat.one_mul,Nat.mod_mod];exact e1
 unfold nj;rw[hk,aen h1 hc (Nat.mod_lt (draw+x*c%q) (by omega)),e2,decide_eq_false hk1,decide_eq_true hC];rfl
theorem acS {key draw:Nat} {H:List Nat} (hg:gIn p q g=true) (hk:gIn p q key=true) (hk1:key≠1) (h1:1<q) (hx:x<q) (e:g ^ x%p=key) (hd:draw<q∧draw≠0) :
  nj p q g key (sgN p q g x draw H).1 (sgN p q g x draw H).2 H=true:=by
 obtain⟨⟨hp1,_,_⟩,_⟩:=tR hg;have hx0:x≠0:=by
  rintro rfl;rw[Nat.pow_zero,Nat.mod_eq_of_lt hp1] at e;exact hk1 e.symm
 have hB:sgB p q g x draw=true:=by
  unfold sgB;rw[vm hg,uu h1 hx,uu h1 hd.1];simp[hx0,hd.2]
 have hs:sgN p q g x draw H=(sgC p q g x draw H,(draw+x*sgC p q g x draw H%q)%q):=by
  unfold sgN;rw[hB,re,re]
 have hC:sgC p q g x draw H=ew q key (g ^ draw%p) H:=by
  unfold sgC ew;rw[e]
 have hc:sgC p q g x draw H<q:=vZ (by omega) _ _;rw[hs];generalize sgC p q g x draw H=c at *;exact aeV hg hk hk1 h1 e hd.1 hc hC
theorem dN (hP:Pri q) (hA:iU p q g h f sec N d l x=true) :
  ckE p q g h f sec N ep d (dVs p q g l N.length) (dYs p q l N N.length) (dPs p q g l N ep d x N.length) (dSg p q g l N ep d x N.length).1 (dSg p q g l N ep d x N.length).2=none:=by
 unfold iU at hA;simp only[Bool.and_eq_true] at hA;obtain⟨⟨⟨hS,hN⟩,hl⟩,hx⟩:=hA;obtain⟨hlen,hall⟩:=hl;obtain⟨hkg,hks,hn8,hnq,hf,hsec⟩:=mL hS;obtain⟨hg,_⟩:=eM hkg;have h1:=hP.1;have hn:N.length<q:=by omega
 have hlen':=of_decide_eq_true hlen;have hsh:∀ i,shN q l i<q:=fun i=>Nat.mod_lt _ (by omega);have hV:∀ i,dV p q g l i=g ^ shN q l i%p:=fun i=>eL hg _;have hky:∀ i,i<N.length→gIn p q (ky N i)=true:=fun i hi=>(eM (hks i hi).2).1;have hY:∀ i,i<N.length→dY p q l N i=ky N i ^ shN q l i%p:=fun i hi=>eL (hky i hi) _;have aV:∀ i,i<N.length→(dVs p q g l N.length)[i]?.getD 0=g ^ shN q l i%p:=fun i hi=>by
  unfold dVs;rw[List.getElem?_map,List.getElem?_range hi];exact hV i
 have aY:∀ i,i<N.length→(dYs p q l N N.length)[i]?.getD 0=ky N i ^ shN q l i%p:=fun i hi=>by
  unfold dYs;rw[List.getElem?_map,List.getElem?_range hi];exact hY i hi
 unfold ckE;rw[hS,if_pos rfl];have b1:shB p q N d (dVs p q g l N.length) (dYs p q l N N.length) (dPs p q g l N ep d x N.length)=true:=by
  unfold shB;rw[hN];have v1:(dVs p q g l N.length).all (gIn p q)=true:=by
   rw[List.all_eq_true];intro v hv;unfold dVs at hv;obtain⟨i,_,rfl⟩:=List.mem_map.1 hv;rw[hV];exact o6 hg (by omega) _
  have v2:(dYs p q l N N.length).all (gIn p q)=true:=by
   rw[List.all_eq_true];intro v hv;unfold dYs at hv;obtain⟨i,hi,rfl⟩:=List.mem_map.1 hv;have hi':=List.mem_range.1 hi;rw[hY i hi'];exact o6 (hky i hi') (by omega) _
  rw[v1,v2];simp[dVs,dYs,dPs]
 rw[b1,if_pos rfl];have b2:duB p q N.length (f+sec).toNat (dVs p q g l N.length)=true:=by
  have hc:(f+sec).toNat=l.length:=by omega
  rw[hc];unfold duB;rw[Bool.or_eq_true,Bool.and_eq_true];refine .inr ⟨ja hP hn,?_⟩;rw[List.all_eq_true];intro k hk;have hk':=List.mem_range.1 hk;rw[decide_eq_true_eq];have hz:=dC (l:=l) (k:=k) hP hn8 hn (by omega) (ja hP hn);have e:dVs p q g l N.length=((List.range N.length).map (shN q l)).map (fun e=>g ^ e%p):=by
   unfold dVs;rw[List.map_map];exact List.map_congr_left (fun i _=>hV i)
  obtain⟨⟨hp1,_,_⟩,_⟩:=tR hg;rw[e,abg hp1 (by simp[dwL]),kj hg];unfold dwL;rw[hz,Nat.pow_zero,Nat.mod_eq_of_lt hp1];exact (p9 (m:=1) (by omega) (by omega)).symm
 rw[b2,if_pos rfl];have b3:aao p q g N (dVs p q g l N.length) (dYs p q l N N.length) (dPs p q g l N ep d x N.length)=true:=by
  unfold aao;rw[List.all_eq_true];intro i hi;have hi' : i<N.length:=by have:=List.mem_range.1 hi;simpa [dPs] using this
  unfold pfB;rw[aV i hi',aY i hi'];have e1:(N[i]?.getD (0,0)).2=ky N i:=by unfold ky;rw[List.getD_eq_getElem?_getD]
  have e2:(dPs p q g l N ep d x N.length)[i]?.getD (0,0)=dP p q g l N ep d x i:=by
   unfold dPs;rw[List.getElem?_map,List.getElem?_range hi'];rfl
  rw[e1,e2];exact abB hg (hky i hi') h1 (hsh i) (kC h1)
 rw[b3,if_pos rfl];obtain⟨hd1,hdn⟩:=sK hN;have hkk:=hks (d - 1) (by omega);unfold ab4 at hx;simp only[Bool.and_eq_true,decide_eq_true_eq] at hx;have hxq:x<q:=by
  have:=hx.1.1;unfold zJ at this;simp only[Bool.and_eq_true,decide_eq_true_eq] at this;exact this.2
 have b4:nj p q g (N[d - 1]?.getD (0,0)).1 (dSg p q g l N ep d x N.length).1 (dSg p q g l N ep d x N.length).2 (yX ep d (dVs p q g l N.length) (dYs p q l N N.length) (dPs p q g l N ep d x N.length))=true:=by
  have e1:(N[d - 1]?.getD (0,0)).1=sgK N d:=by unfold sgK;rw[List.getD_eq_getElem?_getD]
  rw[e1];exact acS hg (eM hkk.1).1 (eM hkk.1).2 h1 hxq hx.2 (kC h1)
 rw[b4,if_pos rfl]
end
end Sx
end
section
open Go Go.RowKit Go.BigFrame
namespace Sx
attribute [local irreducible] DQ DQS WC WI WO WX wd
end Sx
end
section
open Go Go.RowKit Go.BigFrame
namespace Sx
section
variable {p q g:Nat} {N:List (Nat × Nat)} {ep d x n:Nat} {l:List Nat}
theorem aed (hp:p<zd):∀ a∈dVs p q g l n,a<zd:=fun a ha=>by
 unfold dVs at ha;obtain⟨i,_,rfl⟩:=List.mem_map.1 ha;exact sa hp
theorem acZ (hp:p<zd):∀ a∈dYs p q l N n,a<zd:=fun a ha=>by
 unfold dYs at ha;obtain⟨i,_,rfl⟩:=List.mem_map.1 ha;exact sa hp
theorem adR (hq:q<zd) (h0:0<q):yz (dPs p q g l N ep d x n):=fun a ha=>by
 unfold dPs at ha;obtain⟨i,_,rfl⟩:=List.mem_map.1 ha;exact ac4 h0 hq
theorem aav (hq:q<zd) (h0:0<q):(dSg p q g l N ep d x n).1<zd∧(dSg p q g l N ep d x n).2<zd:=by
 exact adv h0 hq
end
def vi (n:Nat):Bool:=decide (2≤n) && decide (n<4294967296) && (List.range n).all fun e=>decide (e<2) || decide (n<e*e) || decide (n%e≠0)
theorem pm (n:Nat):∀ m,n<m*m→∃ d,n<d*d∧∀ e,e<d→e*e≤n
 | 0,h=>by simp at h
 | m+1,h=>by
  rcases Nat.lt_or_ge n (m*m) with h1|h1
  ·exact pm n m h1
  ·exact⟨m+1,h,fun e he=>Nat.le_trans (Nat.mul_le_mul (by omega:e≤m) (by omega:e≤m)) h1⟩
theorem mx {n:Nat} (h:vi n=true):Pri n:=by
 unfold vi at h;simp only[Bool.and_eq_true,decide_eq_true_eq,List.all_eq_true,Bool.or_eq_true,List.mem_range] at h;obtain⟨⟨h2,_⟩,ha⟩:=h;obtain⟨d,hd,hs⟩:=pm n n (by have:=Nat.mul_le_mul_right n h2;omega);refine gj h2 hd (fun e he1 he2=>?_);have he:=hs e he2;have hen:e<n:=by have:=Nat.mul_le_mul_right e he1;omega
 rcases ha e hen with (h|h)|h
 ·omega
 ·omega
 ·exact h
theorem dJ {n d:Nat} (h2:2≤n) (h3:n<4294967296) (hd:n<d*d) (h:∀ e,2≤e→e<d→n%e≠0):vi n=true:=by
 unfold vi;simp only[Bool.and_eq_true,decide_eq_true_eq,List.all_eq_true,Bool.or_eq_true,List.mem_range];refine⟨⟨h2,h3⟩,fun e _=>?_⟩
 rcases Nat.lt_or_ge e 2 with h1|h1
 ·exact .inl (.inl h1)
 ·rcases Nat.lt_or_ge e d with h4|h4
  ·exact .inr (h e h1 h4)
  ·exact .inl (.inr (Nat.lt_of_lt_of_le hd (Nat.mul_le_mul h4 h4)))
theorem bQ {n d:Nat} (h2:2≤d) (hd:d*d≤n) (h:n%d=0):vi n=false:=by
 cases hb:vi n with
 | false=>rfl
 | true =>
  exfalso;unfold vi at hb;simp only[Bool.and_eq_true,decide_eq_true_eq,List.all_eq_true,Bool.or_eq_true,List.mem_range] at hb;have hdn:d<n:=by have:=Nat.mul_le_mul_right d h2;omega
  rcases hb.2 d hdn with (h1|h1)|h1
  ·omega
  ·omega
  ·exact h1 h
theorem nQ {n:Nat} (h:n<2∨4294967296≤n):vi n=false:=by
 unfold vi
 rcases h with h|h
 ·rw[decide_eq_false (show ¬ 2≤n by omega)];rfl
 ·rw[decide_eq_false (show ¬ n<4294967296 by omega)];simp
def rD (p q:Nat):Bool:=decide (wd 0 p<4294967296) && decide (1<wd 0 q) && decide (p=wd 0 p) && decide (q=wd 0 q) && vi (wd 0 p) && vi (wd 0 q) && decide ((wd 0 p - 1)%wd 0 q=0)
theorem ii {p q:Nat} (h:rD p q=true):p<4294967296∧q<4294967296∧Pri p∧Pri q:=by
 unfold rD at h;simp only[Bool.and_eq_true,decide_eq_true_eq] at h;obtain⟨⟨⟨⟨⟨⟨h1,h2⟩,h3⟩,h4⟩,h5⟩,h6⟩,h7⟩:=h;rw[← h3] at h1 h5;rw[← h4] at h6;refine⟨h1,?_,mx h5,mx h6⟩;unfold vi at h6;simp only[Bool.and_eq_true,decide_eq_true_eq] at h6;exact h6.1.2
def mT (q:Nat) (k:Nat × Nat):Bool:=decide (k.1≠0) && decide (k.2≠0) && decide (k.1<q) && decide (k.2<q)
def csK (p g hh:Nat) (k:Nat × Nat):Nat × Nat:=(exN p g k.1,exN p hh k.2)
def csN (p g a:Nat) (ks:List (Nat × Nat)):List (Nat × Nat):=ks.map (csK p g (exN p g a))
def mH (p q g a:Nat) (f sec:Int) (ks:List (Nat × Nat)):Bool :=
 yB p g && decide (a≠0) && decide (ks.length≤7) && rD p q && (ks.all (mT q) && (decide (ks=[]) || yB p (exN p g a))) && uc p q g (exN p g a) f sec (csN p g a ks)
theorem uq (p g a:Nat) (ks:List (Nat × Nat)):(csN p g a ks).length=ks.length:=by simp[csN]
theorem dD {p g a i:Nat} {ks:List (Nat × Nat)} {k:Nat × Nat} (h:ks[i]?=some k):(csN p g a ks)[i]?=some (csK p g (exN p g a) k):=by unfold csN;rw[List.getElem?_map,h];rfl
theorem jp {p g a:Nat} {ks:List (Nat × Nat)} (hp:p<zd):yz (csN p g a ks):=fun x hx=>by
 obtain⟨k,_,rfl⟩:=List.mem_map.1 hx;exact⟨sa hp,sa hp⟩
structure fQ (p q g a:Nat) (f sec:Int) (ks:List (Nat × Nat)):Prop where
 p32:p<4294967296
 q32:q<4294967296
 pri:Pri q
 set:uc p q g (exN p g a) f sec (csN p g a ks)=true
 scr:∀ k∈ks,k.1<q∧k.2<q
 len:ks.length≤7
theorem dG {p q g a:Nat} {f sec:Int} {ks:List (Nat × Nat)} (h:mH p q g a f sec ks=true):fQ p q g a f sec ks:=by
 unfold mH at h;simp only[Bool.and_eq_true,decide_eq_true_eq,List.all_eq_true] at h;obtain⟨⟨⟨⟨⟨_,_⟩,h3⟩,h4⟩,h5,_⟩,h6⟩:=h;obtain⟨g1,g2,_,g4⟩:=ii h4;refine⟨g1,g2,g4,h6,fun k hk=>?_,h3⟩;have:=h5 k hk;unfold mT at this;simp only[Bool.and_eq_true,decide_eq_true_eq] at this;exact⟨this.1.2,this.2⟩
end Sx
end
end Go.Proofs.YteibfbjpkjkejaaGreatDoor
