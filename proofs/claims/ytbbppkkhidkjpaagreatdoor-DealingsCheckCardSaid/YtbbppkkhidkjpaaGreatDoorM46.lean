/- Part 46 of the proof. -/
import Derived.Test.YtbbppkkhidkjpaaGreatDoorM04
import Derived.Test.YtbbppkkhidkjpaaGreatDoorM45
set_option linter.unusedSimpArgs false
set_option linter.unusedVariables false
set_option maxHeartbeats 8000000
namespace Go.Proofs.YtbbppkkhidkjpaaGreatDoor
section
open Go Go.RowKit Go.BigFrame
namespace Sx
abbrev acr:Value:=.iface 200 (.agg #[.pointer (some ⟨3,59,none⟩)])
abbrev mh:World→Prop:=fun w=>Seg w 0 0 [acr]
theorem acs (ge gt:Nat):FnL Tryz.prog 60 [.iface 71 (pt ge),.iface 93 (pt gt)] [⟨gt,71,[.pointer none]⟩] mh (fun v N=>v=.bool true∧N=[⟨gt,71,[pt ge]⟩]):=by
 intro w hok hnd hw;have hg:=(hok ⟨gt,71,[.pointer none]⟩ (by simp)).row (show (71:Nat)≠0 by decide);have hlt:=(hok ⟨gt,71,[.pointer none]⟩ (by simp)).lt;have hc:=(hok ⟨gt,71,[.pointer none]⟩ (by simp)).cell 0;dsimp only at hg hlt hc;refine (acB ⟨ge,0,none⟩ ⟨gt,0,none⟩ (.pointer none) w (hw 0 _ rfl) (by rw[hc];rfl) (by unfold World.frozen?;rw[hg];rfl)).mono ?_;rintro e w' ⟨rfl,rfl⟩;refine⟨.bool true,_,rfl,?_,rfl,rfl⟩;have h0:Me w [gt] [⟨gt,71,[.pointer none]⟩] w:=⟨.refl _ _,hok,fun e he=>.inr (List.mem_map.2 ⟨e,he,rfl⟩),hnd⟩;generalize hW:(((w.alloc _).alloc _).alloc _).alloc _=W;have hB:Below w.heap.size w W:=by
  subst hW;exact ((((Below.refl w.heap.size w).alloc (Nat.le_refl _) _).alloc (by simp) _).alloc (by simp;omega) _).alloc (by simp;omega) _
 have h1:=h0.below hB;have hgW:W.heap[gt]?=some (.cells #[.pointer none] 71 (0,0)):=(hB.block gt hlt).trans hg;refine h1.write (g:=gt) (t:=71) (cs:=[.pointer none]) (cs':=[pt ge]) .here rfl rfl rfl (by simp[World.setCell]) (fun k _ hk=>by simp[World.setCell,Array.getElem?_modify,hk,Ne.symm hk]) ?_;simp[World.setCell,Array.getElem?_modify,hgW]
theorem aco (v:Value):Fn Tryz.prog 60 [.nilIface,v] Tr (Is (.bool false)):=.of fun w=>(acG v w).mono (by rintro e w' ⟨rfl,rfl⟩;exact⟨rfl,Below.refl _ _⟩)
attribute [local irreducible] wd DQ DQS WO WC WX WI
theorem aby:Fn Tryz.prog 23 [.nilIface] Tr (Is (.int .i64 0)):=by
 have hA:=aco;refine Fn.enter Tryz.func23 rfl rfl rfl ?_;intro w hw
 repeat (first|refine WO.does (vV (by kernel_rfl) rfl) ?_|refine Ta ?_|(refine Tm ?_;intro _)|refine WO.acall (hc:=hA _) (k:=?_)|refine Tc ?_|exact Tz)
 done
theorem ab1 (ge:Nat) (e:Int):Fn Tryz.prog 23 [.iface 71 (pt ge)] (fun w=>mh w∧Seg w ge 0 [.int .i64 e]) (Is (.int .i64 e)):=by
 have hA:=acs ge;refine Fn.enter Tryz.func23 rfl rfl rfl ?_;intro w hw;obtain⟨hwH,hwE⟩:=hw
 repeat (first|refine WO.does (vV (by kernel_rfl) rfl) ?_|refine Ta ?_|(refine Tm ?_;intro _)|refine Tc ?_|exact Tz)
 refine WO.callsL (hc:=hA _) (hp:=.cons Pk.a .nil) (fun w' hm=>hwH.mod hm.mod (by simp)) (fun v N hv=>?_);obtain⟨rfl,rfl⟩:=hv
 try dsimp only[List.cons_append,List.nil_append]
 repeat (first|refine WO.does (zi (hs:=hwE)) ?_|refine Ta ?_|(refine Tm ?_;intro _)|refine Tc ?_|exact Tz)
 done
theorem mC (e:Int):Fn Tryz.prog 26 [.int .i64 e,.bool true] Tr (Is .nilIface):=by
 refine Fn.enter Tryz.func26 rfl rfl rfl ?_;intro w hw
 repeat (first|refine Tw ?_|(refine Tm ?_;intro _)|exact Tz)
 done
theorem m5 (e:Int):Fn Tryz.prog 26 [.int .i64 e,.bool false] Tr (Ex (fun s=>.iface 71 (pt (s 0))) (fun s=>[⟨s 0,73,[.int .i64 e]⟩]) (fun _=>True)):=by
 refine Fn.enter Tryz.func26 rfl rfl rfl ?_;intro w hw
 repeat (first|refine WO.does (vV (by kernel_rfl) rfl) ?_|refine Ta ?_|(refine Tm ?_;intro _)|refine Tc ?_|exact Tz)
 rename_i gE;exact WX.ret1 rfl (by exact zt rfl) [⟨gE,73,[.int .i64 e]⟩] (Lle.c Lle.nil) ⟨fun _=>gE,rfl,rfl,trivial⟩
end Sx
end
section
open Go Go.RowKit Go.BigFrame
namespace Sx
section
variable {P:Program} {w0:World} {gs:List Nat} {K:List (Nat × Value)} {L:List Ent}
theorem mH {x y:Operand} {t yt ty u:TypeId} {v:Value} (hx:ev K x=some (.iface u v)) (hy:ev K y=some .nilIface) (hr:∀ w,(binOp .neq t (.iface u v) .nilIface).run P w=.ok (.bool true) w) (hg:∀ w,(eqGuard .neq t x y (.iface u v) .nilIface).run P w=.ok () w):Does P w0 gs K L (.binOp .neq t x y yt) ty (.bool true):=by
 intro ac w hk _ o ho _;simp only[execOp,ho,hk.eval hx,hk.eval hy,Sem.run_bind,hg,Result.andThen_ok,hr,Sem.run_pure]
theorem lU {x y:Operand} {t yt ty:TypeId} (hx:ev K x=some .nilIface) (hy:ev K y=some .nilIface) (hr:∀ w,(binOp .neq t .nilIface .nilIface).run P w=.ok (.bool false) w) (hg:∀ w,(eqGuard .neq t x y .nilIface .nilIface).run P w=.ok () w):Does P w0 gs K L (.binOp .neq t x y yt) ty (.bool false):=by
 intro ac w hk _ o ho _;simp only[execOp,ho,hk.eval hx,hk.eval hy,Sem.run_bind,hg,Result.andThen_ok,hr,Sem.run_pure]
end
theorem kz (v:Value) (w:World):(binOp .neq 59 (.iface 71 v) .nilIface).run Tryz.prog w=.ok (.bool true) w:=by kernel_rfl
theorem ki (w:World):(binOp .neq 59 .nilIface .nilIface).run Tryz.prog w=.ok (.bool false) w:=by kernel_rfl
theorem pL (x:Operand) (v:Value) (w:World):(eqGuard .neq 59 x (.const .nilIface) (.iface 71 v) .nilIface).run Tryz.prog w=.ok () w:=by kernel_rfl
theorem pJ (w:World):(eqGuard .neq 59 (.tmp 14) (.const .nilIface) .nilIface .nilIface).run Tryz.prog w=.ok () w:=by kernel_rfl
def aah:Option Int→Value→List Ent→Prop
 | none=>fun v N=>v=.nilIface∧N=[]
 | some e=>fun v N=>∃ g,v=.iface 71 (pt g)∧N=[⟨g,73,[.int .i64 e]⟩]
abbrev fV (x:Nat × List Value):Value:=.func (.func x.1) #[] x.2.toArray
inductive aaF (R:World→Prop):List (Nat × List Value)→Option Int→Prop
 | nil:aaF R [] none
 | hit {f:Nat} {caps:List Value} {rest:List (Nat × List Value)} {e:Int}:Cal Tryz.prog f→Fn Tryz.prog f caps R (aah (some e))→aaF R ((f,caps)::rest) (some e)
 | go {f:Nat} {caps:List Value} {rest:List (Nat × List Value)} {r:Option Int}:Cal Tryz.prog f→Fn Tryz.prog f caps R (aah none)→aaF R rest r→aaF R ((f,caps)::rest) r
theorem vL (e:Int) (b:Bool):Fn Tryz.prog 26 [.int .i64 e,.bool b] Tr (aah (if b then none else some e)):=by
 cases b with
 | true=>exact fun w hw=>(mC e w hw).mono (by rintro en w1 ⟨v,N,h1,h2,h3,h4⟩;exact⟨v,[],h1,h2,fA.nil _ _,h4,rfl⟩)
 | false=>exact fun w hw=>(m5 e w hw).mono (by rintro en w' ⟨v,N,h1,h2,h3,s,h4,h5,_⟩;exact⟨v,N,h1,h2,h3,s 0,h4,h5⟩)
attribute [local irreducible] wd DQ DQS WO WC WX WI
theorem abu {R:World→Prop} (hR:∀ w w',R w→Mod [] w w'→R w') (fs:List (Nat × List Value)) (r:Option Int) (gR c:Nat) (hn:fs.length≤100) (hA:aaF R fs r) :
  Fn Tryz.prog 24 [.slice (some ⟨gR,0,none⟩) fs.length c] (fun w=>Seg w gR 0 (fs.map fV)∧R w) (aah r):=by
 refine Fn.enter Tryz.func24 rfl rfl rfl ?_;intro w hw;obtain⟨hwF,hwR⟩:=hw
 repeat (first|refine Tw ?_|(refine Tm ?_;intro _)|exact Tz)
 refine WC.loopI (σ:=Nat) (fun i=>i≤fs.length∧aaF R (fs.drop i) r) (fun i=>[(6,.slice (some ⟨gR,0,none⟩) fs.length c),(7,.int .i64 (fs.length:Int)),(8,.int .i64 (i:Int))]) (fun _=>[]) (fun i=>fs.length - i) 0 (fun i hi=>?_) ⟨Nat.zero_le _,by simpa using hA⟩
 try dsimp only at hi ⊢
 obtain⟨hi,hAi⟩:=hi
 by_cases hlt:i<fs.length
 ·obtain⟨⟨f,caps⟩,hx⟩ : ∃ y,fs[i]?=some y:=⟨_,List.getElem?_eq_getElem hlt⟩;have hd:fs.drop i=(f,caps)::fs.drop (i+1):=by
   obtain⟨h1,h2⟩:=List.getElem?_eq_some_iff.1 hx;rw[List.drop_eq_getElem_cons hlt,h2]
  rw[hd] at hAi;have hcx:(fs.map fV)[0+i*1 - 0]?=some (fV (f,caps)):=by simp[hx]
  have hadd2:IntKind.i64.wrap ((i:Int)+1)=((i+1:Nat):Int):=zl (by omega) (by omega) (by omega)
  repeat (first|refine Tw ?_|(refine Tm ?_;intro _)|exact Tz)
  refine WC.dT rfl (by omega) ?_
  repeat (first|refine WO.does (za (o':=0+i*1) rfl rfl hlt rfl) ?_|refine WO.does (zi (v:=fV (f,caps)) (hs:=hwF) (hle:=Nat.zero_le _) (hc:=hcx)) ?_|refine Ta ?_|(refine Tm ?_;intro _)|refine Tc ?_|exact Tz)
  cases hAi with
  | hit hCal hF =>
   refine WO.calls (fs:=[]) (cs:=caps) hF rfl rfl (by simp) (fun w1 hm=>hR _ _ hwR hm.mod) (fun v N hv=>?_);obtain⟨gE,rfl,rfl⟩:=hv
   try dsimp only[List.cons_append,List.nil_append]
   repeat (first|refine WO.does (mH rfl rfl (kz _) (pL _ _)) ?_|refine Ta ?_|(refine Tm ?_;intro _)|refine Tc ?_|exact Tz)
   exact WX.ret1 rfl (by exact zt rfl) [⟨gE,73,[.int .i64 _]⟩] (Lle.c Lle.nil) ⟨gE,rfl,rfl⟩
  | go hCal hF hAr =>
   refine WO.calls (fs:=[]) (cs:=caps) hF rfl rfl (by simp) (fun w1 hm=>hR _ _ hwR hm.mod) (fun v N hv=>?_);obtain⟨rfl,rfl⟩:=hv
   try dsimp only[List.cons_append,List.nil_append]
   repeat (first|refine WO.does (lU rfl rfl ki pJ) ?_|refine WO.does (zh rfl rfl hadd2) ?_|refine Ta ?_|(refine Tm ?_;intro _)|refine Tc ?_|exact Tz)
   exact WX.metI (i+1) (hs:=⟨⟨by omega,hAr⟩,by show fs.length - (i+1)<fs.length - i;omega⟩)
 ·have hi2:i=fs.length:=by omega
  subst hi2;rw[List.drop_length] at hAi;cases hAi
  repeat (first|refine Tw ?_|(refine Tm ?_;intro _)|exact Tz)
  refine WC.dF rfl (by omega) ?_
  repeat (first|refine Tw ?_|(refine Tm ?_;intro _)|exact Tz)
  exact WX.ret1 rfl (by exact zt rfl) [] Lle.nil ⟨rfl,rfl⟩
end Sx
end
section
open Go Go.RowKit Go.BigFrame
namespace Sx
attribute [local irreducible] DQ DQS WC WI WO WX wd
theorem Lle.left:∀ {N L:List Ent},Lle N (N++L)
 | [],_=>trivial
 | _::_,_=>Lle.cons Pk.here rfl Lle.left
section
variable (p q g h:Nat) (f sec:Int) (pN pV pY pP:Option Addr) (cN cV cY cP:Nat) (N:List (Nat × Nat)) (ep d:Nat) (V Y:List Nat) (Pr:List (Nat × Nat)) (sC sS gS gD gg gn gi:Nat)
structure CkR (w:World):Prop where
 s:Seg w gS 0 (stC p q g h f sec (.slice pN N.length cN))
 d:Seg w gD 0 (dlC ep d (.slice pV V.length cV) (.slice pY Y.length cY) (.slice pP Pr.length cP) sC sS)
 g:Seg w gg 0 (zR p q g h)
 n:Seg w gn 0 [.int .i64 (N.length:Int)]
 i:Seg w gi 0 [.func (.func 19) #[] #[pt gg]]
 rN:RdF vm (.slice pN N.length cN) N w
 rV:RdF zc (.slice pV V.length cV) V w
 rY:RdF zc (.slice pY Y.length cY) Y w
 rP:RdF pfC (.slice pP Pr.length cP) Pr w
theorem CkR.mod {w w' : World} (k:CkR p q g h f sec pN pV pY pP cN cV cY cP N ep d V Y Pr sC sS gS gD gg gn gi w) (hm:Mod [] w w'):CkR p q g h f sec pN pV pY pP cN cV cY cP N ep d V Y Pr sC sS gS gD gg gn gi w':=⟨k.s.mod hm (by simp),k.d.mod hm (by simp),k.g.mod hm (by simp),k.n.mod hm (by simp),k.i.mod hm (by simp),k.rN.mod hm,k.rV.mod hm,k.rY.mod hm,k.rP.mod hm⟩
theorem ac3 (a:Nat) (ha:a<zb) (hp:p<zb) (hq:q<zb):Fn Tryz.prog 21 ([zf a]++[pt gg]) (fun w=>Seg w gg 0 (zR p q g h)) (Is (.bool (!gIn p q a))):=by
 have hI:=qZ p q g h a ha hp hq;generalize gIn p q a=r at *;refine Fn.enter Tryz.func21 rfl rfl rfl ?_;intro w hw
 repeat (first|refine Ta ?_|(refine Tm ?_;intro _)|refine WO.acall (hc:=hI) (k:=?_)|refine Tc ?_|exact Tz)
 done
theorem acU (xs:List Nat) (b o c:Nat) (hx:∀ a∈xs,a<zb) (hn:xs.length≤1000) (hp:p<zb) (hq:q<zb):Fn Tryz.prog 19 ([.slice (some ⟨b,o,none⟩) xs.length c]++[pt gg]) (fun w=>Seg w b o (xs.flatMap zc)∧Seg w gg 0 (zR p q g h)) (Is (.bool (xs.all (gIn p q)))):=by
 have hC:=sE (f:=21) [pt gg] (fun a=>!gIn p q a) xs b o c (fun w=>Seg w gg 0 (zR p q g h)) yu.seg (by omega) (fun x h1=>ac3 p q g h gg x (hx x h1) hp hq);have e:xs.all (gIn p q) = !(xs.any fun a=>!gIn p q a):=by rw[List.any_eq_not_all_not];simp
 rw[e];generalize (xs.any fun a=>!gIn p q a)=r at *;refine Fn.enter Tryz.func19 rfl rfl rfl ?_;intro w hw;obtain⟨hw1,hw2⟩:=hw
 repeat (first|refine WO.does (zU rfl rfl) ?_|refine Ta ?_|(refine Tm ?_;intro _)|refine WO.acallR (hc:=hC) (hR:=fun w' hm=>⟨hw1.mod hm.mod (by simp),hw2.mod hm.mod (by simp)⟩) (k:=?_)|refine Tc ?_|exact Tz)
 done
theorem adY (hp:p<zb) (hq:q<zb) (hg:g<zb) (hh:h<zb) (hN:vh N) (hNl:N.length≤1099511627776)
  (hf1 : -9223372036854775808≤f) (hf2:f≤9223372036854775807) (hs1 : -9223372036854775808≤sec) (hs2:sec≤9223372036854775807) :
  Fn Tryz.prog 25 [pt gS] (CkR p q g h f sec pN pV pY pP cN cV cY cP N ep d V Y Pr sC sS gS gD gg gn gi) (aah (if vT p q g h f sec N then none else some 1)):=by
 have hS:=lj p q g h f sec pN cN N hp hq hg hh hN hNl hf1 hf2 hs1 hs2;generalize vT p q g h f sec N=r at *;refine Fn.enter Tryz.func25 rfl rfl rfl ?_;intro w hw;have hsS:=hw.s
 repeat (first|refine WO.does (zk (vs:=stC p q g h f sec (.slice pN N.length cN)) (hs:=hsS)) ?_|refine Ta ?_|(refine Tm ?_;intro _)|refine WO.acallR (hc:=hS) (hR:=fun w' hm=>(hw.rN.mod hm.mod)) (k:=?_)|refine Tc ?_|exact Tz)
 refine WO.calls (fs:=[]) (cs:=[]) (vL 1 r) rfl rfl rfl (fun _ _=>trivial) (fun v N hv=>?_)
 repeat (first|refine Tw ?_|(refine Tm ?_;intro _)|exact Tz)
 exact WX.ret1 rfl (by exact zt rfl) N Lle.left hv
def shB (p q:Nat) (N:List (Nat × Nat)) (d:Nat) (V Y:List Nat) (Pr:List (Nat × Nat)):Bool:=nE d N && decide (V.length=N.length) && decide (Y.length=N.length) && decide (Pr.length=N.length) && V.all (gIn p q) && Y.all (gIn p q)
theorem adZ (hp:p<zb) (hq:q<zb) (hd:d<256) (hNl:N.length≤100) (hN1:1≤N.length) (hVl:V.length≤1000) (hYl:Y.length≤1000) (hPl:Pr.length≤1000) (hV:∀ a∈V,a<zb) (hY:∀ a∈Y,a<zb) :
  Fn Tryz.prog 28 [pt gS,pt gD,pt gn,pt gi] (CkR p q g h f sec pN pV pY pP cN cV cY cP N ep d V Y Pr sC sS gS gD gg gn gi) (aah (if shB p q N d V Y Pr then none else some 4)):=by
 have hNo:=acH p q g h f sec pN cN N d hd (by omega);refine Fn.enter Tryz.func28 rfl rfl rfl ?_;intro w hw;have hsS:=hw.s;have hsD:=hw.d;have hsn:=hw.n;have hsi:=hw.i;unfold shB;cases e1:nE d N with
 | false =>
  rw[e1] at hNo
  repeat (first|refine WO.does (zk (vs:=stC p q g h f sec (.slice pN N.length cN)) (hs:=hsS)) ?_|refine WO.does (zi (hs:=hsD)) ?_|refine WO.does (zi (hs:=hsn)) ?_|refine WO.does (zi (hs:=hsi)) ?_|refine WO.does (yf rfl rfl (by omega)) ?_|refine WO.does (yU rfl rfl (by omega)) ?_|refine Ta ?_|(refine Tm ?_;intro _)|refine WO.acall (hc:=hNo) (k:=?_)|refine Tc ?_|exact Tz)
  refine WO.calls (fs:=[]) (cs:=[]) (vL 4 false) rfl rfl rfl (fun _ _=>trivial) (fun v N' hv=>?_)
  repeat (first|refine Tw ?_|(refine Tm ?_;intro _)|exact Tz)
  exact WX.ret1 rfl (by exact zt rfl) N' Lle.left hv
 | true =>
 rw[e1] at hNo
 by_cases e2:V.length=N.length
 case neg =>
  rw[decide_eq_false e2]
  repeat (first|refine WO.does (zk (vs:=stC p q g h f sec (.slice pN N.length cN)) (hs:=hsS)) ?_|refine WO.does (zi (hs:=hsD)) ?_|refine WO.does (zi (hs:=hsn)) ?_|refine WO.does (zi (hs:=hsi)) ?_|refine WO.does (yf rfl rfl (by omega)) ?_|refine WO.does (yU rfl rfl (by omega)) ?_|refine Ta ?_|(refine Tm ?_;intro _)|refine WO.acall (hc:=hNo) (k:=?_)|refine Tc ?_|exact Tz)
  simp only[Bool.and_false,Bool.false_and];refine WO.calls (fs:=[]) (cs:=[]) (vL 4 false) rfl rfl rfl (fun _ _=>trivial) (fun v N' hv=>?_)
  repeat (first|refine Tw ?_|(refine Tm ?_;intro _)|exact Tz)
  exact WX.ret1 rfl (by exact zt rfl) N' Lle.left hv
 by_cases e3:Y.length=N.length
 case neg =>
  rw[decide_eq_false e3]
  repeat (first|refine WO.does (zk (vs:=stC p q g h f sec (.slice pN N.length cN)) (hs:=hsS)) ?_|refine WO.does (zi (hs:=hsD)) ?_|refine WO.does (zi (hs:=hsn)) ?_|refine WO.does (zi (hs:=hsi)) ?_|refine WO.does (yf rfl rfl (by omega)) ?_|refine WO.does (yU rfl rfl (by omega)) ?_|refine Ta ?_|(refine Tm ?_;intro _)|refine WO.acall (hc:=hNo) (k:=?_)|refine Tc ?_|exact Tz)
  simp only[Bool.and_false,Bool.false_and];refine WO.calls (fs:=[]) (cs:=[]) (vL 4 false) rfl rfl rfl (fun _ _=>trivial) (fun v N' hv=>?_)
  repeat (first|refine Tw ?_|(refine Tm ?_;intro _)|exact Tz)
  exact WX.ret1 rfl (by exact zt rfl) N' Lle.left hv
 by_cases e4:Pr.length=N.length
 case neg =>
  rw[decide_eq_false e4]
  repeat (first|refine WO.does (zk (vs:=stC p q g h f sec (.slice pN N.length cN)) (hs:=hsS)) ?_|refine WO.does (zi (hs:=hsD)) ?_|refine WO.does (zi (hs:=hsn)) ?_|refine WO.does (zi (hs:=hsi)) ?_|refine WO.does (yf rfl rfl (by omega)) ?_|refine WO.does (yU rfl rfl (by omega)) ?_|refine Ta ?_|(refine Tm ?_;intro _)|refine WO.acall (hc:=hNo) (k:=?_)|refine Tc ?_|exact Tz)
  simp only[Bool.and_false,Bool.false_and];refine WO.calls (fs:=[]) (cs:=[]) (vL 4 false) rfl rfl rfl (fun _ _=>trivial) (fun v N' hv=>?_)
  repeat (first|refine Tw ?_|(refine Tm ?_;intro _)|exact Tz)
  exact WX.ret1 rfl (by exact zt rfl) N' Lle.left hv
 obtain⟨x0,hx0⟩ : ∃ x,V[0]?=some x:=⟨_,List.getElem?_eq_getElem (by omega)⟩;obtain⟨y0,hy0⟩ : ∃ x,Y[0]?=some x:=⟨_,List.getElem?_eq_getElem (by omega)⟩;obtain⟨bV,oV,eV,_,hVs⟩:=hw.rV.get hx0;obtain⟨bY,oY,eY,_,hYs⟩:=hw.rY.get hy0;subst eV eY;have hC1:=acU p q g h gg V bV oV cV hV hVl hp hq;have hC2:=acU p q g h gg Y bY oY cY hY hYl hp hq;rw[decide_eq_true e2,decide_eq_true e3,decide_eq_true e4];cases e5:V.all (gIn p q) with
 | false =>
  rw[e5] at hC1
  repeat (first|refine WO.does (zk (vs:=stC p q g h f sec (.slice pN N.length cN)) (hs:=hsS)) ?_|refine WO.does (zi (hs:=hsD)) ?_|refine WO.does (zi (hs:=hsn)) ?_|refine WO.does (zi (hs:=hsi)) ?_|refine WO.does (yf rfl rfl (by omega)) ?_|refine WO.does (yU rfl rfl (by omega)) ?_|refine Ta ?_|(refine Tm ?_;intro _)|refine WO.acall (hc:=hNo) (k:=?_)|refine WO.acallV (hc:=hC1) (hR:=fun w' hm=>⟨hVs.mod hm.mod (by simp),hw.g.mod hm.mod (by simp)⟩) (k:=?_)|refine Tc ?_|exact Tz)
  simp only[Bool.and_false,Bool.false_and];refine WO.calls (fs:=[]) (cs:=[]) (vL 4 false) rfl rfl rfl (fun _ _=>trivial) (fun v N' hv=>?_)
  repeat (first|refine Tw ?_|(refine Tm ?_;intro _)|exact Tz)
  exact WX.ret1 rfl (by exact zt rfl) N' Lle.left hv
 | true =>
 rw[e5] at hC1;generalize Y.all (gIn p q)=r at *
 repeat (first|refine WO.does (zk (vs:=stC p q g h f sec (.slice pN N.length cN)) (hs:=hsS)) ?_|refine WO.does (zi (hs:=hsD)) ?_|refine WO.does (zi (hs:=hsn)) ?_|refine WO.does (zi (hs:=hsi)) ?_|refine WO.does (yf rfl rfl (by omega)) ?_|refine WO.does (yU rfl rfl (by omega)) ?_|refine Ta ?_|(refine Tm ?_;intro _)|refine WO.acall (hc:=hNo) (k:=?_)|refine WO.acallV (hc:=hC1) (hR:=fun w' hm=>⟨hVs.mod hm.mod (by simp),hw.g.mod hm.mod (by simp)⟩) (k:=?_)|refine WO.acallV (hc:=hC2) (hR:=fun w' hm=>⟨hYs.mod hm.mod (by simp),hw.g.mod hm.mod (by simp)⟩) (k:=?_)|refine Tc ?_|exact Tz)
 simp only[Bool.and_true,Bool.true_and];refine WO.calls (fs:=[]) (cs:=[]) (vL 4 r) rfl rfl rfl (fun _ _=>trivial) (fun v N' hv=>?_)
 repeat (first|refine Tw ?_|(refine Tm ?_;intro _)|exact Tz)
 exact WX.ret1 rfl (by exact zt rfl) N' Lle.left hv
end
end Sx
end
end Go.Proofs.YtbbppkkhidkjpaaGreatDoor
