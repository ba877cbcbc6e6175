/- Part 45 of the proof. -/
import Derived.Test.YtegjemedanccoaaGreatDoorM42
import Derived.Test.YtegjemedanccoaaGreatDoorM44
set_option linter.unusedSimpArgs false
set_option linter.unusedVariables false
set_option maxHeartbeats 8000000
namespace Go.Proofs.YtegjemedanccoaaGreatDoor
section
open Go Go.RowKit Go.BigFrame
namespace Sx
abbrev aai:Value:=.iface 215 (.agg #[.pointer (some ⟨3,97,none⟩)])
abbrev tI:World→Prop:=fun w=>Seg w 0 0 [aai]
theorem aab (ge gt:Nat):FnL Tryz.prog 88 [.iface 104 (pt ge),.iface 139 (pt gt)] [⟨gt,104,[.pointer none]⟩] tI (fun v N=>v=.bool true∧N=[⟨gt,104,[pt ge]⟩]):=by
 intro w hok hnd hw;have hg:=(hok ⟨gt,104,[.pointer none]⟩ (by simp)).row (show (104:Nat)≠0 by decide);have hlt:=(hok ⟨gt,104,[.pointer none]⟩ (by simp)).lt;have hc:=(hok ⟨gt,104,[.pointer none]⟩ (by simp)).cell 0;dsimp only at hg hlt hc;refine (abI ⟨ge,0,none⟩ ⟨gt,0,none⟩ (.pointer none) w (hw 0 _ rfl) (by rw[hc];rfl) (by unfold World.frozen?;rw[hg];rfl)).mono ?_;rintro e w' ⟨rfl,rfl⟩;refine⟨.bool true,_,rfl,?_,rfl,rfl⟩;have h0:Me w [gt] [⟨gt,104,[.pointer none]⟩] w:=⟨.refl _ _,hok,fun e he=>.inr (List.mem_map.2 ⟨e,he,rfl⟩),hnd⟩;generalize hW:(((w.alloc _).alloc _).alloc _).alloc _=W;have hB:Below w.heap.size w W:=by
  subst hW;exact ((((Below.refl w.heap.size w).alloc (Nat.le_refl _) _).alloc (by simp) _).alloc (by simp;omega) _).alloc (by simp;omega) _
 have h1:=h0.below hB;have hgW:W.heap[gt]?=some (.cells #[.pointer none] 104 (0,0)):=(hB.block gt hlt).trans hg;refine h1.write (g:=gt) (t:=104) (cs:=[.pointer none]) (cs':=[pt ge]) .here rfl rfl rfl (by simp[World.setCell]) (fun k _ hk=>by simp[World.setCell,Array.getElem?_modify,hk,Ne.symm hk]) ?_;simp[World.setCell,Array.getElem?_modify,hgW]
theorem aaL (v:Value):Fn Tryz.prog 88 [.nilIface,v] Tr (Is (.bool false)):=.of fun w=>(abW v w).mono (by rintro e w' ⟨rfl,rfl⟩;exact⟨rfl,Below.refl _ _⟩)
attribute [local irreducible] wd DQ DQS WO WC WX WI
theorem abo:Fn Tryz.prog 44 [.nilIface] Tr (Is (.int .i64 0)):=by
 have hA:=aaL;refine Fn.enter Tryz.func44 rfl rfl rfl ?_;intro w hw
 repeat (first|refine WO.does (vm (by kernel_rfl) rfl) ?_|refine Ta ?_|(refine Tm ?_;intro _)|refine WO.acall (hc:=hA _) (k:=?_)|refine Tc ?_|exact Tz)
 done
theorem aaU (ge:Nat) (e:Int):Fn Tryz.prog 44 [.iface 104 (pt ge)] (fun w=>tI w∧Seg w ge 0 [.int .i64 e]) (Is (.int .i64 e)):=by
 have hA:=aab ge;refine Fn.enter Tryz.func44 rfl rfl rfl ?_;intro w hw;obtain⟨hwH,hwE⟩:=hw
 repeat (first|refine WO.does (vm (by kernel_rfl) rfl) ?_|refine Ta ?_|(refine Tm ?_;intro _)|refine Tc ?_|exact Tz)
 refine WO.callsL (hc:=hA _) (hp:=.cons Pk.a .nil) (fun w' hm=>hwH.mod hm.mod (by simp)) (fun v N hv=>?_);obtain⟨rfl,rfl⟩:=hv
 try dsimp only[List.cons_append,List.nil_append]
 repeat (first|refine WO.does (zg (hs:=hwE)) ?_|refine Ta ?_|(refine Tm ?_;intro _)|refine Tc ?_|exact Tz)
 done
theorem nm (e:Int):Fn Tryz.prog 47 [.int .i64 e,.bool true] Tr (Is .nilIface):=by
 refine Fn.enter Tryz.func47 rfl rfl rfl ?_;intro w hw
 repeat (first|refine Tw ?_|(refine Tm ?_;intro _)|exact Tz)
 done
theorem nj (e:Int):Fn Tryz.prog 47 [.int .i64 e,.bool false] Tr (Ex (fun s=>.iface 104 (pt (s 0))) (fun s=>[⟨s 0,106,[.int .i64 e]⟩]) (fun _=>True)):=by
 refine Fn.enter Tryz.func47 rfl rfl rfl ?_;intro w hw
 repeat (first|refine WO.does (vm (by kernel_rfl) rfl) ?_|refine Ta ?_|(refine Tm ?_;intro _)|refine Tc ?_|exact Tz)
 rename_i gE;exact WX.ret1 rfl (by exact zr rfl) [⟨gE,106,[.int .i64 e]⟩] (Lle.c Lle.nil) ⟨fun _=>gE,rfl,rfl,trivial⟩
end Sx
end
section
open Go Go.RowKit Go.BigFrame
namespace Sx
section
variable {P:Program} {w0:World} {gs:List Nat} {K:List (Nat × Value)} {L:List Ent}
theorem nb {x y:Operand} {t yt ty u:TypeId} {v:Value} (hx:ev K x=some (.iface u v)) (hy:ev K y=some .nilIface) (hr:∀ w,(binOp .neq t (.iface u v) .nilIface).run P w=.ok (.bool true) w) (hg:∀ w,(eqGuard .neq t x y (.iface u v) .nilIface).run P w=.ok () w):Does P w0 gs K L (.binOp .neq t x y yt) ty (.bool true):=by
 intro ac w hk _ o ho _;simp only[execOp,ho,hk.eval hx,hk.eval hy,Sem.run_bind,hg,Result.andThen_ok,hr,Sem.run_pure]
theorem nQ {x y:Operand} {t yt ty:TypeId} (hx:ev K x=some .nilIface) (hy:ev K y=some .nilIface) (hr:∀ w,(binOp .neq t .nilIface .nilIface).run P w=.ok (.bool false) w) (hg:∀ w,(eqGuard .neq t x y .nilIface .nilIface).run P w=.ok () w):Does P w0 gs K L (.binOp .neq t x y yt) ty (.bool false):=by
 intro ac w hk _ o ho _;simp only[execOp,ho,hk.eval hx,hk.eval hy,Sem.run_bind,hg,Result.andThen_ok,hr,Sem.run_pure]
end
theorem mN (v:Value) (w:World):(binOp .neq 97 (.iface 104 v) .nilIface).run Tryz.prog w=.ok (.bool true) w:=by kernel_rfl
theorem mH (w:World):(binOp .neq 97 .nilIface .nilIface).run Tryz.prog w=.ok (.bool false) w:=by kernel_rfl
theorem qu (x:Operand) (v:Value) (w:World):(eqGuard .neq 97 x (.const .nilIface) (.iface 104 v) .nilIface).run Tryz.prog w=.ok () w:=by kernel_rfl
theorem qg (w:World):(eqGuard .neq 97 (.tmp 14) (.const .nilIface) .nilIface .nilIface).run Tryz.prog w=.ok () w:=by kernel_rfl
def dr:Option Int→Value→List Ent→Prop
 | none=>fun v N=>v=.nilIface∧N=[]
 | some e=>fun v N=>∃ g,v=.iface 104 (pt g)∧N=[⟨g,106,[.int .i64 e]⟩]
abbrev fV (x:Nat × List Value):Value:=.func (.func x.1) #[] x.2.toArray
inductive al (R:World→Prop):List (Nat × List Value)→Option Int→Prop
 | nil:al R [] none
 | hit {f:Nat} {caps:List Value} {rest:List (Nat × List Value)} {e:Int}:Cal Tryz.prog f→Fn Tryz.prog f caps R (dr (some e))→al R ((f,caps)::rest) (some e)
 | go {f:Nat} {caps:List Value} {rest:List (Nat × List Value)} {r:Option Int}:Cal Tryz.prog f→Fn Tryz.prog f caps R (dr none)→al R rest r→al R ((f,caps)::rest) r
theorem vc (e:Int) (b:Bool):Fn Tryz.prog 47 [.int .i64 e,.bool b] Tr (dr (if b then none else some e)):=by
 cases b with
 | true=>exact fun w hw=>(nm e w hw).mono (by rintro en w1 ⟨v,N,h1,h2,h3,h4⟩;exact⟨v,[],h1,h2,ii.nil _ _,h4,rfl⟩)
 | false=>exact fun w hw=>(nj e w hw).mono (by rintro en w' ⟨v,N,h1,h2,h3,s,h4,h5,_⟩;exact⟨v,N,h1,h2,h3,s 0,h4,h5⟩)
attribute [local irreducible] wd DQ DQS WO WC WX WI
theorem aaS {R:World→Prop} (hR:∀ w w',R w→Mod [] w w'→R w') (fs:List (Nat × List Value)) (r:Option Int) (gR c:Nat) (hn:fs.length≤100) (hA:al R fs r) :
  Fn Tryz.prog 45 [.slice (some ⟨gR,0,none⟩) fs.length c] (fun w=>Seg w gR 0 (fs.map fV)∧R w) (dr r):=by
 refine Fn.enter Tryz.func45 rfl rfl rfl ?_;intro w hw;obtain⟨hwF,hwR⟩:=hw
 repeat (first|refine Tw ?_|(refine Tm ?_;intro _)|exact Tz)
 refine WC.loopI (σ:=Nat) (fun i=>i≤fs.length∧al R (fs.drop i) r) (fun i=>[(6,.slice (some ⟨gR,0,none⟩) fs.length c),(7,.int .i64 (fs.length:Int)),(8,.int .i64 (i:Int))]) (fun _=>[]) (fun i=>fs.length - i) 0 (fun i hi=>?_) ⟨Nat.zero_le _,by simpa using hA⟩
 try dsimp only at hi ⊢
 obtain⟨hi,hAi⟩:=hi
 by_cases hlt:i<fs.length
 ·obtain⟨⟨f,caps⟩,hx⟩ : ∃ y,fs[i]?=some y:=⟨_,List.getElem?_eq_getElem hlt⟩;have hd:fs.drop i=(f,caps)::fs.drop (i+1):=by
   obtain⟨h1,h2⟩:=List.getElem?_eq_some_iff.1 hx;rw[List.drop_eq_getElem_cons hlt,h2]
  rw[hd] at hAi;have hcx:(fs.map fV)[0+i*1 - 0]?=some (fV (f,caps)):=by simp[hx]
  have hadd2:IntKind.i64.wrap ((i:Int)+1)=((i+1:Nat):Int):=zm (by omega) (by omega) (by omega)
  repeat (first|refine Tw ?_|(refine Tm ?_;intro _)|exact Tz)
  refine WC.dT rfl (by omega) ?_
  repeat (first|refine WO.does (za (o':=0+i*1) rfl rfl hlt rfl) ?_|refine WO.does (zg (v:=fV (f,caps)) (hs:=hwF) (hle:=Nat.zero_le _) (hc:=hcx)) ?_|refine Ta ?_|(refine Tm ?_;intro _)|refine Tc ?_|exact Tz)
  cases hAi with
  | hit hCal hF =>
   refine WO.calls (fs:=[]) (cs:=caps) hF rfl rfl (by simp) (fun w1 hm=>hR _ _ hwR hm.mod) (fun v N hv=>?_);obtain⟨gE,rfl,rfl⟩:=hv
   try dsimp only[List.cons_append,List.nil_append]
   repeat (first|refine WO.does (nb rfl rfl (mN _) (qu _ _)) ?_|refine Ta ?_|(refine Tm ?_;intro _)|refine Tc ?_|exact Tz)
   exact WX.ret1 rfl (by exact zr rfl) [⟨gE,106,[.int .i64 _]⟩] (Lle.c Lle.nil) ⟨gE,rfl,rfl⟩
  | go hCal hF hAr =>
   refine WO.calls (fs:=[]) (cs:=caps) hF rfl rfl (by simp) (fun w1 hm=>hR _ _ hwR hm.mod) (fun v N hv=>?_);obtain⟨rfl,rfl⟩:=hv
   try dsimp only[List.cons_append,List.nil_append]
   repeat (first|refine WO.does (nQ rfl rfl mH qg) ?_|refine WO.does (zi rfl rfl hadd2) ?_|refine Ta ?_|(refine Tm ?_;intro _)|refine Tc ?_|exact Tz)
   exact WX.metI (i+1) (hs:=⟨⟨by omega,hAr⟩,by show fs.length - (i+1)<fs.length - i;omega⟩)
 ·have hi2:i=fs.length:=by omega
  subst hi2;rw[List.drop_length] at hAi;cases hAi
  repeat (first|refine Tw ?_|(refine Tm ?_;intro _)|exact Tz)
  refine WC.dF rfl (by omega) ?_
  repeat (first|refine Tw ?_|(refine Tm ?_;intro _)|exact Tz)
  exact WX.ret1 rfl (by exact zr rfl) [] Lle.nil ⟨rfl,rfl⟩
end Sx
end
section
open Go Go.RowKit Go.BigFrame
namespace Sx
attribute [local irreducible] DQ DQS WC WI WO WX wd
theorem Lle.left:∀ {N L:List Ent},Lle N (N++L)
 | [],_=>trivial
 | _::_,_=>Lle.cons Pk.here rfl Lle.left
section
variable (p q g h:Nat) (f sec:Int) (pN pV pY pP:Option Addr) (cN cV cY cP:Nat) (N:List (Nat × Nat)) (ep d:Nat) (V Y:List Nat) (Pr:List (Nat × Nat)) (sC sS gS gD gg gn gi:Nat)
structure CkR (w:World):Prop where
 s:Seg w gS 0 (stC p q g h f sec (.slice pN N.length cN))
 d:Seg w gD 0 (dlC ep d (.slice pV V.length cV) (.slice pY Y.length cY) (.slice pP Pr.length cP) sC sS)
 g:Seg w gg 0 (zJ p q g h)
 n:Seg w gn 0 [.int .i64 (N.length:Int)]
 i:Seg w gi 0 [.func (.func 40) #[] #[pt gg]]
 rN:RdF zI (.slice pN N.length cN) N w
 rV:RdF zb (.slice pV V.length cV) V w
 rY:RdF zb (.slice pY Y.length cY) Y w
 rP:RdF pfC (.slice pP Pr.length cP) Pr w
theorem CkR.mod {w w' : World} (k:CkR p q g h f sec pN pV pY pP cN cV cY cP N ep d V Y Pr sC sS gS gD gg gn gi w) (hm:Mod [] w w'):CkR p q g h f sec pN pV pY pP cN cV cY cP N ep d V Y Pr sC sS gS gD gg gn gi w':=⟨k.s.mod hm (by simp),k.d.mod hm (by simp),k.g.mod hm (by simp),k.n.mod hm (by simp),k.i.mod hm (by simp),k.rN.mod hm,k.rV.mod hm,k.rY.mod hm,k.rP.mod hm⟩
theorem acN (a:Nat) (ha:a<zc) (hp:p<zc) (hq:q<zc):Fn Tryz.prog 42 ([ze a]++[pt gg]) (fun w=>Seg w gg 0 (zJ p q g h)) (Is (.bool (!gIn p q a))):=by
 have hI:=tY p q g h a ha hp hq;generalize gIn p q a=r at *;refine Fn.enter Tryz.func42 rfl rfl rfl ?_;intro w hw
 repeat (first|refine Ta ?_|(refine Tm ?_;intro _)|refine WO.acall (hc:=hI) (k:=?_)|refine Tc ?_|exact Tz)
 done
theorem acA (xs:List Nat) (b o c:Nat) (hx:∀ a∈xs,a<zc) (hn:xs.length≤1000) (hp:p<zc) (hq:q<zc):Fn Tryz.prog 40 ([.slice (some ⟨b,o,none⟩) xs.length c]++[pt gg]) (fun w=>Seg w b o (xs.flatMap zb)∧Seg w gg 0 (zJ p q g h)) (Is (.bool (xs.all (gIn p q)))):=by
 have hC:=tx (f:=42) [pt gg] (fun a=>!gIn p q a) xs b o c (fun w=>Seg w gg 0 (zJ p q g h)) ye.seg (by omega) (fun x h1=>acN p q g h gg x (hx x h1) hp hq);have e:xs.all (gIn p q) = !(xs.any fun a=>!gIn p q a):=by rw[List.any_eq_not_all_not];simp
 rw[e];generalize (xs.any fun a=>!gIn p q a)=r at *;refine Fn.enter Tryz.func40 rfl rfl rfl ?_;intro w hw;obtain⟨hw1,hw2⟩:=hw
 repeat (first|refine WO.does (zO rfl rfl) ?_|refine Ta ?_|(refine Tm ?_;intro _)|refine WO.acallR (hc:=hC) (hR:=fun w' hm=>⟨hw1.mod hm.mod (by simp),hw2.mod hm.mod (by simp)⟩) (k:=?_)|refine Tc ?_|exact Tz)
 done
theorem adp (hp:p<zc) (hq:q<zc) (hg:g<zc) (hh:h<zc) (hN:z8 N) (hNl:N.length≤1099511627776)
  (hf1 : -9223372036854775808≤f) (hf2:f≤9223372036854775807) (hs1 : -9223372036854775808≤sec) (hs2:sec≤9223372036854775807) :
  Fn Tryz.prog 46 [pt gS] (CkR p q g h f sec pN pV pY pP cN cV cY cP N ep d V Y Pr sC sS gS gD gg gn gi) (dr (if y7 p q g h f sec N then none else some 1)):=by
 have hS:=zP p q g h f sec pN cN N hp hq hg hh hN hNl hf1 hf2 hs1 hs2;generalize y7 p q g h f sec N=r at *;refine Fn.enter Tryz.func46 rfl rfl rfl ?_;intro w hw;have hsS:=hw.s
 repeat (first|refine WO.does (zj (vs:=stC p q g h f sec (.slice pN N.length cN)) (hs:=hsS)) ?_|refine Ta ?_|(refine Tm ?_;intro _)|refine WO.acallR (hc:=hS) (hR:=fun w' hm=>(hw.rN.mod hm.mod)) (k:=?_)|refine Tc ?_|exact Tz)
 refine WO.calls (fs:=[]) (cs:=[]) (vc 1 r) rfl rfl rfl (fun _ _=>trivial) (fun v N hv=>?_)
 repeat (first|refine Tw ?_|(refine Tm ?_;intro _)|exact Tz)
 exact WX.ret1 rfl (by exact zr rfl) N Lle.left hv
def shB (p q:Nat) (N:List (Nat × Nat)) (d:Nat) (V Y:List Nat) (Pr:List (Nat × Nat)):Bool:=qh d N && decide (V.length=N.length) && decide (Y.length=N.length) && decide (Pr.length=N.length) && V.all (gIn p q) && Y.all (gIn p q)
theorem ac3 (hp:p<zc) (hq:q<zc) (hd:d<256) (hNl:N.length≤100) (hN1:1≤N.length) (hVl:V.length≤1000) (hYl:Y.length≤1000) (hPl:Pr.length≤1000) (hV:∀ a∈V,a<zc) (hY:∀ a∈Y,a<zc) :
  Fn Tryz.prog 48 [pt gS,pt gD,pt gn,pt gi] (CkR p q g h f sec pN pV pY pP cN cV cY cP N ep d V Y Pr sC sS gS gD gg gn gi) (dr (if shB p q N d V Y Pr then none else some 4)):=by
 have hNo:=iY p q g h f sec pN cN N d hd (by omega);refine Fn.enter Tryz.func48 rfl rfl rfl ?_;intro w hw;have hsS:=hw.s;have hsD:=hw.d;have hsn:=hw.n;have hsi:=hw.i;unfold shB;cases e1:qh d N with
 | false =>
  rw[e1] at hNo
  repeat (first|refine WO.does (zj (vs:=stC p q g h f sec (.slice pN N.length cN)) (hs:=hsS)) ?_|refine WO.does (zg (hs:=hsD)) ?_|refine WO.does (zg (hs:=hsn)) ?_|refine WO.does (zg (hs:=hsi)) ?_|refine WO.does (zB rfl rfl (by omega)) ?_|refine WO.does (yv rfl rfl (by omega)) ?_|refine Ta ?_|(refine Tm ?_;intro _)|refine WO.acall (hc:=hNo) (k:=?_)|refine Tc ?_|exact Tz)
  refine WO.calls (fs:=[]) (cs:=[]) (vc 4 false) rfl rfl rfl (fun _ _=>trivial) (fun v N' hv=>?_)
  repeat (first|refine Tw ?_|(refine Tm ?_;intro _)|exact Tz)
  exact WX.ret1 rfl (by exact zr rfl) N' Lle.left hv
 | true =>
 rw[e1] at hNo
 by_cases e2:V.length=N.length
 case neg =>
  rw[decide_eq_false e2]
  repeat (first|refine WO.does (zj (vs:=stC p q g h f sec (.slice pN N.length cN)) (hs:=hsS)) ?_|refine WO.does (zg (hs:=hsD)) ?_|refine WO.does (zg (hs:=hsn)) ?_|refine WO.does (zg (hs:=hsi)) ?_|refine WO.does (zB rfl rfl (by omega)) ?_|refine WO.does (yv rfl rfl (by omega)) ?_|refine Ta ?_|(refine Tm ?_;intro _)|refine WO.acall (hc:=hNo) (k:=?_)|refine Tc ?_|exact Tz)
  simp only[Bool.and_false,Bool.false_and];refine WO.calls (fs:=[]) (cs:=[]) (vc 4 false) rfl rfl rfl (fun _ _=>trivial) (fun v N' hv=>?_)
  repeat (first|refine Tw ?_|(refine Tm ?_;intro _)|exact Tz)
  exact WX.ret1 rfl (by exact zr rfl) N' Lle.left hv
 by_cases e3:Y.length=N.length
 case neg =>
  rw[decide_eq_false e3]
  repeat (first|refine WO.does (zj (vs:=stC p q g h f sec (.slice pN N.length cN)) (hs:=hsS)) ?_|refine WO.does (zg (hs:=hsD)) ?_|refine WO.does (zg (hs:=hsn)) ?_|refine WO.does (zg (hs:=hsi)) ?_|refine WO.does (zB rfl rfl (by omega)) ?_|refine WO.does (yv rfl rfl (by omega)) ?_|refine Ta ?_|(refine Tm ?_;intro _)|refine WO.acall (hc:=hNo) (k:=?_)|refine Tc ?_|exact Tz)
  simp only[Bool.and_false,Bool.false_and];refine WO.calls (fs:=[]) (cs:=[]) (vc 4 false) rfl rfl rfl (fun _ _=>trivial) (fun v N' hv=>?_)
  repeat (first|refine Tw ?_|(refine Tm ?_;intro _)|exact Tz)
  exact WX.ret1 rfl (by exact zr rfl) N' Lle.left hv
 by_cases e4:Pr.length=N.length
 case neg =>
  rw[decide_eq_false e4]
  repeat (first|refine WO.does (zj (vs:=stC p q g h f sec (.slice pN N.length cN)) (hs:=hsS)) ?_|refine WO.does (zg (hs:=hsD)) ?_|refine WO.does (zg (hs:=hsn)) ?_|refine WO.does (zg (hs:=hsi)) ?_|refine WO.does (zB rfl rfl (by omega)) ?_|refine WO.does (yv rfl rfl (by omega)) ?_|refine Ta ?_|(refine Tm ?_;intro _)|refine WO.acall (hc:=hNo) (k:=?_)|refine Tc ?_|exact Tz)
  simp only[Bool.and_false,Bool.false_and];refine WO.calls (fs:=[]) (cs:=[]) (vc 4 false) rfl rfl rfl (fun _ _=>trivial) (fun v N' hv=>?_)
  repeat (first|refine Tw ?_|(refine Tm ?_;intro _)|exact Tz)
  exact WX.ret1 rfl (by exact zr rfl) N' Lle.left hv
 obtain⟨x0,hx0⟩ : ∃ x,V[0]?=some x:=⟨_,List.getElem?_eq_getElem (by omega)⟩;obtain⟨y0,hy0⟩ : ∃ x,Y[0]?=some x:=⟨_,List.getElem?_eq_getElem (by omega)⟩;obtain⟨bV,oV,eV,_,hVs⟩:=hw.rV.get hx0;obtain⟨bY,oY,eY,_,hYs⟩:=hw.rY.get hy0;subst eV eY;have hC1:=acA p q g h gg V bV oV cV hV hVl hp hq;have hC2:=acA p q g h gg Y bY oY cY hY hYl hp hq;rw[decide_eq_true e2,decide_eq_true e3,decide_eq_true e4];cases e5:V.all (gIn p q) with
 | false =>
  rw[e5] at hC1
  repeat (first|refine WO.does (zj (vs:=stC p q g h f sec (.slice pN N.length cN)) (hs:=hsS)) ?_|refine WO.does (zg (hs:=hsD)) ?_|refine WO.does (zg (hs:=hsn)) ?_|refine WO.does (zg (hs:=hsi)) ?_|refine WO.does (zB rfl rfl (by omega)) ?_|refine WO.does (yv rfl rfl (by omega)) ?_|refine Ta ?_|(refine Tm ?_;intro _)|refine WO.acall (hc:=hNo) (k:=?_)|refine WO.acallV (hc:=hC1) (hR:=fun w' hm=>⟨hVs.mod hm.mod (by simp),hw.g.mod hm.mod (by simp)⟩) (k:=?_)|refine Tc ?_|exact Tz)
  simp only[Bool.and_false,Bool.false_and];refine WO.calls (fs:=[]) (cs:=[]) (vc 4 false) rfl rfl rfl (fun _ _=>trivial) (fun v N' hv=>?_)
  repeat (first|refine Tw ?_|(refine Tm ?_;intro _)|exact Tz)
  exact WX.ret1 rfl (by exact zr rfl) N' Lle.left hv
 | true =>
 rw[e5] at hC1;generalize Y.all (gIn p q)=r at *
 repeat (first|refine WO.does (zj (vs:=stC p q g h f sec (.slice pN N.length cN)) (hs:=hsS)) ?_|refine WO.does (zg (hs:=hsD)) ?_|refine WO.does (zg (hs:=hsn)) ?_|refine WO.does (zg (hs:=hsi)) ?_|refine WO.does (zB rfl rfl (by omega)) ?_|refine WO.does (yv rfl rfl (by omega)) ?_|refine Ta ?_|(refine Tm ?_;intro _)|refine WO.acall (hc:=hNo) (k:=?_)|refine WO.acallV (hc:=hC1) (hR:=fun w' hm=>⟨hVs.mod hm.mod (by simp),hw.g.mod hm.mod (by simp)⟩) (k:=?_)|refine WO.acallV (hc:=hC2) (hR:=fun w' hm=>⟨hYs.mod hm.mod (by simp),hw.g.mod hm.mod (by simp)⟩) (k:=?_)|refine Tc ?_|exact Tz)
 simp only[Bool.and_true,Bool.true_and];refine WO.calls (fs:=[]) (cs:=[]) (vc 4 r) rfl rfl rfl (fun _ _=>trivial) (fun v N' hv=>?_)
 repeat (first|refine Tw ?_|(refine Tm ?_;intro _)|exact Tz)
 exact WX.ret1 rfl (by exact zr rfl) N' Lle.left hv
end
section
variable (p q g h:Nat) (f sec:Int) (pN pV pY pP:Option Addr) (cN cV cY cP:Nat) (N:List (Nat × Nat)) (ep d:Nat) (V Y:List Nat) (Pr:List (Nat × Nat)) (sC sS gS gD gg gn gi:Nat)
theorem acZ (n c:Nat) (hNn:N.length=n) (hfs:f+sec=(c:Int)) (hVn:V.length=n) (hn1:1≤n) (hn7:n≤7) (hc1:1≤c) (hcn:c≤n) (hnq:n<q) (hq:q<zc) (hp:p<zc) (h1p:1<p) (hV:aaB p V) :
  Fn Tryz.prog 49 [pt gg,pt gD,pt gS] (CkR p q g h f sec pN pV pY pP cN cV cY cP N ep d V Y Pr sC sS gS gD gg gn gi) (dr (if duB p q n c V then none else some 12)):=by
 refine Fn.enter Tryz.func49 rfl rfl rfl ?_;intro w hw;obtain⟨x0,hx0⟩ : ∃ x,V[0]?=some x:=⟨_,List.getElem?_eq_getElem (by omega)⟩;obtain⟨bV,oV,eV,_,hVs⟩:=hw.rV.get hx0;subst eV;have hlV:bV<w.heap.size:=RdF.lt (k:=3) (fun _=>rfl) hw.rV (by rintro rfl;simp at hx0);have hD:=dt p q g h V n cV c bV oV hVn hn1 hn7 hc1 hcn hnq hq hp h1p hV;have hsS:=hw.s;have hsD:=hw.d;have hsg:=hw.g;rw[hVn] at hsD;have hadd:IntKind.i64.wrap (f+sec)=(c:Int):=by rw[hfs];exact i64_in (by omega) (by omega)
 generalize duB p q n c V=b at *
 repeat (first|refine WO.does (zj (vs:=zJ p q g h) (hs:=hsg)) ?_|refine WO.does (zg (hs:=hsD)) ?_|refine WO.does (zg (hs:=hsS)) ?_|refine WO.does (zi rfl rfl hadd) ?_|refine Ta ?_|(refine Tm ?_;intro _)|refine Tc ?_|exact Tz)
 refine WO.calls (fs:=[]) (cs:=[]) hD rfl rfl rfl (fun w1 hm=>⟨hVs.mod hm.mod (by simp),Nat.lt_of_lt_of_le hlV hm.mod.size⟩) (fun v N1 hv=>?_);obtain⟨e,rfl,he,rfl⟩:=hv;cases b with
 | true =>
  obtain rfl:=he rfl
  repeat (first|refine WO.does (zB rfl rfl rfl) ?_|refine Ta ?_|(refine Tm ?_;intro _)|refine Tc ?_|exact Tz)
  refine WO.calls (fs:=[]) (cs:=[]) (vc 12 true) rfl rfl rfl (fun _ _=>trivial) (fun v N' hv=>?_)
  repeat (first|refine Tw ?_|(refine Tm ?_;intro _)|exact Tz)
  exact WX.ret1 rfl (by exact zr rfl) N' Lle.left hv
 | false =>
  repeat (first|refine Tw ?_|(refine Tm ?_;intro _)|exact Tz)
  refine WO.calls (fs:=[]) (cs:=[]) (vc 12 false) rfl rfl rfl (fun _ _=>trivial) (fun v N' hv=>?_)
  repeat (first|refine Tw ?_|(refine Tm ?_;intro _)|exact Tz)
  exact WX.ret1 rfl (by exact zr rfl) N' Lle.left hv
theorem adc (k:Nat × Nat) (hk:N[d - 1]?=some k) (hd1:1≤d) (hd:d<256) (hV0:V≠[]) (hY0:Y≠[]) (hP0:Pr≠[]) (hVl:V.length≤1000) (hYl:Y.length≤1000) (hPl:Pr.length≤1000) (hk1:k.1<zc) (hk2:k.2<zc)
  (hp:p<zc) (hq:q<zc) (hg:g<zc) (hC:sC<zc) (hS:sS<zc) (hgm:yC p g=true) (hHl:(ut ep d V Y Pr).length=32) (hHb:∀ b∈ut ep d V Y Pr,b<256) :
  Fn Tryz.prog 53 [pt gg,pt gS,pt gD] (CkR p q g h f sec pN pV pY pP cN cV cY cP N ep d V Y Pr sC sS gS gD gg gn gi) (dr (if nn p q g k.1 sC sS (ut ep d V Y Pr) then none else some 10)):=by
 have hH:=cv ep d sC sS pV pY pP cV cY cP V Y Pr hd hVl hYl hPl;have hSg:=jH p q g h k.1 sC sS (ut ep d V Y Pr) hp hq hg hk1 hC hS hHb hHl hgm;generalize ut ep d V Y Pr=H at *;generalize nn p q g k.1 sC sS H=b at *;have hbH:(byC H).length=32:=by rw[zf,hHl]
 refine Fn.enter Tryz.func53 rfl rfl rfl ?_;intro w hw;obtain⟨bN,oN,eN,_,hNs⟩:=hw.rN.get hk;subst eN;have hlt:d - 1<N.length:=by
  rcases Nat.lt_or_ge (d - 1) N.length with h1|h1
  ·exact h1
  ·rw[List.getElem?_eq_none h1] at hk;cases hk
 have hsS:=hw.s;have hsD:=hw.d;have hsg:=hw.g;have hsub:IntKind.u8.wrap ((d:Int) - 1)=((d - 1:Nat):Int):=by simp[IntKind.wrap,IntKind.signed,IntKind.bits];omega
 have hcK:=zq zE hk;have hcx:cut (N.flatMap zI) (oN+(d - 1)*8 - oN) 4=zb k.1:=by
  rw[Nat.add_sub_cancel_left];have:cut (cut (N.flatMap zI) ((d - 1)*8) 8) 0 4=cut (N.flatMap zI) ((d - 1)*8) 4:=by unfold cut;rw[List.drop_zero,List.take_take];rfl
  rw[← this,hcK];rfl
 obtain⟨key,k2⟩:=k;dsimp only at *
 repeat (first|refine Tw ?_|(refine Tm ?_;intro _)|exact Tz)
 refine WC.adraw 16 (k:=?_);refine DQ.does (fun s _=>zj (vs:=zJ p q g h) (hs:=hsg)) Dp.const ?_
 iterate 1 (first|refine Da ?_|refine Dc ?_)
 refine DQ.does (fun s _=>zg (hs:=hsS)) Dp.const ?_
 iterate 1 (first|refine Da ?_|refine Dc ?_)
 refine DQ.does (fun s _=>zg (hs:=hsD)) Dp.const ?_;refine DQ.does (fun s _=>zM rfl rfl hsub) Dp.const ?_;refine DQ.does (fun s _=>za (o':=oN+(d - 1)*8) rfl rfl hlt rfl) Dp.const ?_
 iterate 1 (first|refine Da ?_|refine Dc ?_)
 refine DQ.does (fun s _=>zj (vs:=zb key) (hs:=hNs) (hle:=Nat.le_add_right _ _) (hc:=hcx)) Dp.const ?_;refine DQ.does (fun s _=>zj (vs:=dlC ep d (.slice pV V.length cV) (.slice pY Y.length cY) (.slice pP Pr.length cP) sC sS) (hs:=hsD)) Dp.const ?_;refine DQ.acallM (hc:=hH) (hR:=fun w1 hm=>⟨hw.rV.mod hm.mod,hw.rY.mod hm.mod,hw.rP.mod hm.mod⟩) (k:=?_)
 iterate 1 (first|refine Da ?_|refine Dc ?_)
 refine DQ.does (fun s _=>zj (vs:=yj sC sS) (hs:=hsD)) Dp.const ?_;refine DQ.acallM (hc:=hSg) (hR:=fun _ _=>trivial) (k:=?_);cases b with
 | true =>
  refine DQ.acallM (hc:=nm 10) (hR:=fun _ _=>trivial) (k:=?_)
  iterate 1 (first|refine Da ?_|refine Dc ?_)
  refine DQ.anil (k:=?_);intro sx _
  repeat (first|refine Tw ?_|(refine Tm ?_;intro _)|exact Tz)
  exact WX.ret1 rfl (by exact zr rfl) [] Lle.nil ⟨rfl,rfl⟩
 | false =>
  refine DQ.callsE (fs:=fun _=>[]) (cs:=fun _=>[]) (R:=fun _=>Tr) (vf:=fun _ x=>.iface 104 (pt (x 0))) (Nf:=fun _ x=>[⟨x 0,106,[.int .i64 10]⟩]) (S:=fun _ _=>True) (fun _=>[]) (fun _=>.nil)
   (fun _=>⟨fun _=>0,trivial⟩) (fun _ _=>nj 10) (fun _=>rfl) (fun _=>rfl) (fun _=>rfl) (fun _ _ w hm=>trivial) Dp.const Dp.const Dp.const ?_
  try dsimp only[List.map_cons,List.map_nil,List.cons_append,List.nil_append]
  iterate 1 (first|refine Da ?_|refine Dc ?_)
  refine DQ.anil (k:=?_);intro sx _
  repeat (first|refine Tw ?_|(refine Tm ?_;intro _)|exact Tz)
  exact WX.ret1 rfl (by exact zr rfl) _ (Lle.c Lle.nil) ⟨_,rfl,rfl⟩
end
def adu:ByteArray:=⟨#[115,104,97,114,101]⟩
def pfB (p q g:Nat) (N:List (Nat × Nat)) (V Y:List Nat) (Pr:List (Nat × Nat)) (i:Nat):Bool:=ckB p q (yb adu) g (V[i]?.getD 0) (N[i]?.getD (0,0)).2 (Y[i]?.getD 0) (Pr[i]?.getD (0,0)).1 (Pr[i]?.getD (0,0)).2
def ah (p q g:Nat) (N:List (Nat × Nat)) (V Y:List Nat) (Pr:List (Nat × Nat)):Bool:=(List.range Pr.length).all (pfB p q g N V Y Pr)
theorem iu {P:Nat→Bool} {n i:Nat} (hi:i<n) (h:P i=false):(List.range n).all P=false:=by
 rw[List.all_eq_false];exact⟨i,List.mem_range.2 hi,by simp[h]⟩
theorem e9 {α:Type} {f:α→List Value} {m k o:Nat} {xs:List α} {i:Nat} {x:α} (hk:∀ x,(f x).length=k) (hx:xs[i]?=some x) (hm:o+m≤k):cut (xs.flatMap f) (i*k+o) m=cut (f x) o m:=by
 rw[← zq hk hx];unfold cut;rw[List.drop_take,List.take_take,List.drop_drop,Nat.min_eq_left (by omega)]
section
variable (p q g h:Nat) (f sec:Int) (pN pV pY pP:Option Addr) (cN cV cY cP:Nat) (N:List (Nat × Nat)) (ep d:Nat) (V Y:List Nat) (Pr:List (Nat × Nat)) (sC sS gS gD gg gn gi:Nat)
theorem acV (hVn:V.length=Pr.length) (hYn:Y.length=Pr.length) (hNn:N.length=Pr.length) (hP7:Pr.length≤7) (hN:z8 N) (hV:∀ a∈V,a<zc) (hY:∀ a∈Y,a<zc) (hPr:z8 Pr) (hp:p<zc) (hq:q<zc) (hg:g<zc) :
  Fn Tryz.prog 51 [pt gD,pt gg,pt gS] (CkR p q g h f sec pN pV pY pP cN cV cY cP N ep d V Y Pr sC sS gS gD gg gn gi) (dr (if ah p q g N V Y Pr then none else some 11)):=by
 refine Fn.enter Tryz.func51 rfl rfl rfl ?_;intro w hw;have hsS:=hw.s;have hsD:=hw.d;have hsg:=hw.g
 repeat (first|refine WO.does (zg (hs:=hsD)) ?_|refine Ta ?_|(refine Tm ?_;intro _)|refine Tc ?_|exact Tz)
 refine WC.loopI (σ:=Nat) (fun i=>i≤Pr.length∧∀ j,j<i→pfB p q g N V Y Pr j=true) (fun i=>[(0,pt gD),(1,pt gg),(2,pt gS),(7,.slice pP Pr.length cP),(8,.int .i64 (Pr.length:Int)),(9,.int .i64 (i:Int))]) (fun _=>[]) (fun i=>Pr.length - i) 0 (fun i hi=>?_) ⟨Nat.zero_le _,fun j hj=>absurd hj (Nat.not_lt_zero _)⟩
 try dsimp only at hi ⊢
 obtain⟨hi,h0⟩:=hi
 by_cases hlt:i<Pr.length
 ·obtain⟨x,hx⟩ : ∃ y,V[i]?=some y:=⟨_,List.getElem?_eq_getElem (by omega)⟩;obtain⟨y,hy⟩ : ∃ z,Y[i]?=some z:=⟨_,List.getElem?_eq_getElem (by omega)⟩;obtain⟨k,hk⟩ : ∃ z,N[i]?=some z:=⟨_,List.getElem?_eq_getElem (by omega)⟩;obtain⟨pr,hpr⟩ : ∃ z,Pr[i]?=some z:=⟨_,List.getElem?_eq_getElem (by omega)⟩;obtain⟨bV,oV,eV,_,hVs⟩:=hw.rV.get hx;obtain⟨bY,oY,eY,_,hYs⟩:=hw.rY.get hy;obtain⟨bN,oN,eN,_,hNs⟩:=hw.rN.get hk;obtain⟨bP,oP,eP,_,hPs⟩:=hw.rP.get hpr;subst eV eY eN eP;have hcV:cut (V.flatMap zb) (oV+i*4 - oV) 4=zb x:=by rw[Nat.add_sub_cancel_left];exact zq zx hx
  have hcY:cut (Y.flatMap zb) (oY+i*4 - oY) 4=zb y:=by rw[Nat.add_sub_cancel_left];exact zq zx hy
  have hcP:cut (Pr.flatMap pfC) (oP+i*8 - oP) 8=pfC pr:=by rw[Nat.add_sub_cancel_left];exact zq tf hpr
  have hcN:cut (N.flatMap zI) (oN+i*8+4 - oN) 4=zb k.2:=by
   rw[Nat.add_assoc,Nat.add_sub_cancel_left,e9 zE hk (by decide)];rfl
  have hadd2:IntKind.i64.wrap ((i:Int)+1)=((i+1:Nat):Int):=zm (by omega) (by omega) (by omega);have hC:=aaJ p q g h adu g x k.2 y pr.1 pr.2 hp hq hg (hV _ (List.mem_of_getElem? hx)) (hN _ (List.mem_of_getElem? hk)).2 (hY _ (List.mem_of_getElem? hy)) (hPr _ (List.mem_of_getElem? hpr)).1 (hPr _ (List.mem_of_getElem? hpr)).2 (by decide);have hb:ckB p q (yb adu) g x k.2 y pr.1 pr.2=pfB p q g N V Y Pr i:=by unfold pfB;rw[hx,hy,hk,hpr];rfl
  rw[hb] at hC;cases hr:pfB p q g N V Y Pr i with
  | true =>
   rw[hr] at hC
   repeat (first|refine Tw ?_|(refine Tm ?_;intro _)|exact Tz)
   refine WC.dT rfl (by omega) ?_
   repeat (first|refine WO.does (za (o':=oP+i*8) rfl rfl hlt rfl) ?_|refine WO.does (zj (vs:=pfC pr) (hs:=hPs) (hle:=Nat.le_add_right _ _) (hc:=hcP)) ?_|refine Ta ?_|(refine Tm ?_;intro _)|refine Tc ?_|exact Tz)
   refine WC.adraw 22 (k:=?_);refine DQ.does (fun s _=>zj (vs:=zJ p q g h) (hs:=hsg)) Dp.const ?_
   iterate 1 (first|refine Da ?_|refine Dc ?_)
   refine DQ.does (fun s _=>zj (vs:=zb g) (hs:=hsg)) Dp.const ?_
   iterate 1 (first|refine Da ?_|refine Dc ?_)
   refine DQ.does (fun s _=>zg (hs:=hsD)) Dp.const ?_
   iterate 1 (first|refine Da ?_|refine Dc ?_)
   refine DQ.does (fun s _=>za (o':=oV+i*4) rfl rfl (by omega) rfl) Dp.const ?_;refine DQ.does (fun s _=>zj (vs:=zb x) (hs:=hVs) (hle:=Nat.le_add_right _ _) (hc:=hcV)) Dp.const ?_
   iterate 1 (first|refine Da ?_|refine Dc ?_)
   refine DQ.does (fun s _=>zg (hs:=hsS)) Dp.const ?_
   iterate 1 (first|refine Da ?_|refine Dc ?_)
   refine DQ.does (fun s _=>za (o':=oN+i*8) rfl rfl (by omega) rfl) Dp.const ?_
   iterate 1 (first|refine Da ?_|refine Dc ?_)
   refine DQ.does (fun s _=>zj (vs:=zb k.2) (hs:=hNs) (hle:=by omega) (hc:=hcN)) Dp.const ?_
   iterate 1 (first|refine Da ?_|refine Dc ?_)
   refine DQ.does (fun s _=>zg (hs:=hsD)) Dp.const ?_
   iterate 1 (first|refine Da ?_|refine Dc ?_)
   refine DQ.does (fun s _=>za (o':=oY+i*4) rfl rfl (by omega) rfl) Dp.const ?_;refine DQ.does (fun s _=>zj (vs:=zb y) (hs:=hYs) (hle:=Nat.le_add_right _ _) (hc:=hcY)) Dp.const ?_;refine DQ.does (fun s _=>zy (vs:=pfC pr) (hc:=rfl)) Dp.const ?_;refine DQ.acallM (hc:=hC) (hR:=fun _ _=>trivial) (k:=?_)
   iterate 1 (first|refine Da ?_|refine Dc ?_)
   refine DQ.anil (k:=?_);intro sx _
   repeat (first|refine WO.does (zi rfl rfl hadd2) ?_|refine Ta ?_|(refine Tm ?_;intro _)|refine Tc ?_|exact Tz)
   exact WX.metI (i+1) (hs:=⟨⟨by omega,fun j hj=>by
    by_cases e:j=i
    ·subst e;exact hr
    ·exact h0 j (by omega)⟩,by show Pr.length - (i+1)<Pr.length - i;omega⟩)
  | false =>
   rw[hr] at hC;rw[show ah p q g N V Y Pr=false from iu hlt hr]
   repeat (first|refine Tw ?_|(refine Tm ?_;intro _)|exact Tz)
   refine WC.dT rfl (by omega) ?_
   repeat (first|refine WO.does (za (o':=oP+i*8) rfl rfl hlt rfl) ?_|refine WO.does (zj (vs:=pfC pr) (hs:=hPs) (hle:=Nat.le_add_right _ _) (hc:=hcP)) ?_|refine Ta ?_|(refine Tm ?_;intro _)|refine Tc ?_|exact Tz)
   refine WC.adraw 22 (k:=?_);refine DQ.does (fun s _=>zj (vs:=zJ p q g h) (hs:=hsg)) Dp.const ?_
   iterate 1 (first|refine Da ?_|refine Dc ?_)
   refine DQ.does (fun s _=>zj (vs:=zb g) (hs:=hsg)) Dp.const ?_
   iterate 1 (first|refine Da ?_|refine Dc ?_)
   refine DQ.does (fun s _=>zg (hs:=hsD)) Dp.const ?_
   iterate 1 (first|refine Da ?_|refine Dc ?_)
   refine DQ.does (fun s _=>za (o':=oV+i*4) rfl rfl (by omega) rfl) Dp.const ?_;refine DQ.does (fun s _=>zj (vs:=zb x) (hs:=hVs) (hle:=Nat.le_add_right _ _) (hc:=hcV)) Dp.const ?_
   iterate 1 (first|refine Da ?_|refine Dc ?_)
   refine DQ.does (fun s _=>zg (hs:=hsS)) Dp.const ?_
   iterate 1 (first|refine Da ?_|refine Dc ?_)
   refine DQ.does (fun s _=>za (o':=oN+i*8) rfl rfl (by omega) rfl) Dp.const ?_
   iterate 1 (first|refine Da ?_|refine Dc ?_)
   refine DQ.does (fun s _=>zj (vs:=zb k.2) (hs:=hNs) (hle:=by omega) (hc:=hcN)) Dp.const ?_
   iterate 1 (first|refine Da ?_|refine Dc ?_)
   refine DQ.does (fun s _=>zg (hs:=hsD)) Dp.const ?_
   iterate 1 (first|refine Da ?_|refine Dc ?_)
   refine DQ.does (fun s _=>za (o':=oY+i*4) rfl rfl (by omega) rfl) Dp.const ?_;refine DQ.does (fun s _=>zj (vs:=zb y) (hs:=hYs) (hle:=Nat.le_add_right _ _) (hc:=hcY)) Dp.const ?_;refine DQ.does (fun s _=>zy (vs:=pfC pr) (hc:=rfl)) Dp.const ?_;refine DQ.acallM (hc:=hC) (hR:=fun _ _=>trivial) (k:=?_)
   iterate 1 (first|refine Da ?_|refine Dc ?_)
   refine DQ.anil (k:=?_);intro sx _
   repeat (first|refine WO.does (vm (by kernel_rfl) rfl) ?_|refine Ta ?_|(refine Tm ?_;intro _)|refine Tc ?_|exact Tz)
   exact WX.ret1 rfl (by exact zr rfl) [⟨_,106,[.int .i64 11]⟩] (Lle.c Lle.nil) ⟨_,rfl,rfl⟩
 ·have hi2:i=Pr.length:=by omega
  have hall:ah p q g N V Y Pr=true:=by
   unfold ah;rw[List.all_eq_true];exact fun j hj=>h0 j (by have:=List.mem_range.1 hj;omega)
  rw[hall]
  repeat (first|refine Tw ?_|(refine Tm ?_;intro _)|exact Tz)
  refine WC.dF rfl (by omega) ?_
  repeat (first|refine Tw ?_|(refine Tm ?_;intro _)|exact Tz)
  exact WX.ret1 rfl (by exact zr rfl) [] Lle.nil ⟨rfl,rfl⟩
end
end Sx
end
section
open Go Go.RowKit Go.BigFrame
namespace Sx
section
variable (p q g h:Nat) (f sec:Int) (N:List (Nat × Nat)) (ep d:Nat) (V Y:List Nat) (Pr:List (Nat × Nat)) (sC sS:Nat)
def ckE:Option Int:=if y7 p q g h f sec N then (if shB p q N d V Y Pr then (if duB p q N.length (f+sec).toNat V then (if ah p q g N V Y Pr then (if nn p q g (N[d - 1]?.getD (0,0)).1 sC sS (ut ep d V Y Pr) then none else some 10) else some 11) else some 12) else some 4) else some 1
end
theorem uN {a q:Nat} (h1:1<q) (h2:a<q):zF a a q=true:=by unfold zF;simp[h1,h2]
theorem ac4 {q a b:Nat} (h1:1<q) (ha:a<q) (hb:b<q):([a,b].all fun x=>zF x x q)=true:=by simp[uN h1 ha,uN h1 hb]
theorem ka {q x:Nat} {H:List Nat} (h1:1<q):ve q x H<q∧ve q x H≠0:=by
 unfold ve;split
 ·exact⟨h1,by decide⟩
 ·rename_i h;exact⟨vM (by omega) _ _,h⟩
theorem fe {p q a:Nat} (h:kB p q a=true):gIn p q a=true∧a≠1:=by
 unfold kB at h;simpa using h
section
variable {p q g h:Nat} {f sec:Int} {N:List (Nat × Nat)} {ep d x:Nat} {l:List Nat}
theorem nS (hS:y7 p q g h f sec N=true):kB p q g=true∧(∀ i,i<N.length→kB p q (N.getD i (0,0)).1=true∧kB p q (N.getD i (0,0)).2=true)∧N.length<8∧(N.length:Int)+sec<(q:Int)∧0≤f∧1≤sec:=by
 unfold y7 at hS;simp only[Bool.and_eq_true,decide_eq_true_eq] at hS;obtain⟨⟨⟨⟨⟨⟨⟨⟨⟨⟨h1,h2⟩,h3⟩,h4⟩,h5⟩,h6⟩,h7⟩,h8⟩,h9⟩,h10⟩,h11⟩:=hS;refine⟨h9,fun i hi=>?_,by omega,h8,h1,h3⟩;have:=List.all_eq_true.1 h11 N[i] (List.getElem_mem hi);rw[List.getD_eq_getElem?_getD,List.getElem?_eq_getElem hi];simpa using this
theorem aa6 {k y draw:Nat} (hg:gIn p q g=true) (hy:gIn p q y=true) (h1:1<q) (hk:k<q) (hd:draw<q∧draw≠0) :
  ckB p q (yb uz) g (g ^ k%p) y (y ^ k%p) (pfN p q g k y draw).1 (pfN p q g k y draw).2=true:=by
 have hB:prB p q k g y draw=true:=by
  unfold prB;rw[vy hg,vy hy,uN h1 hk,uN h1 hd.1];simp[hd.2]
 unfold pfN;rw[hB,sV,sV];have hc:prC p q (yb uz) k g y draw<q:=vM (by omega) _ _;have e1:=ot (x:=k) hg hc hd.1;have e2:=ot (x:=k) hy hc hd.1;dsimp only;generalize hC:prC p q (yb uz) k g y draw=c at *;unfold ckB;rw[hg,pT hg (by omega),hy,pT hy (by omega),uN h1 hc,uN h1 (Nat.mod_lt _ (by omega))];simp only[Bool.true_and,Bool.and_true,decide_eq_true_eq];unfold ckC vL;rw[e1,e2,← hC];rfl
theorem acW {key draw c:Nat} {H:List Nat} (hg:gIn p q g=true) (hk:gIn p q key=true) (hk1:key≠1) (h1:1<q) (e:g ^ x%p=key) (hd:draw<q) (hc:c<q) (hC:c=eC q key (g ^ draw%p) H) :
  nn p q g key c ((draw+x*c%q)%q) H=true:=by
 have e1:=ot (x:=x) hg hc hd;rw[e] at e1;have e2:prD p [g,key] [(draw+x*c%q)%q,(0+q - c)%q]=g ^ draw%p:=by
  unfold prD;simp only[List.zip_cons_cons,List.zip_nil_left,List.foldl_cons,List.foldl_nil,Nat.one_mul,Nat.mod_mod];exact e1
 unfold nn;rw[hk,ac4 h1 hc (Nat.mod_lt (draw+x*c%q) (by omega)),e2,decide_eq_false hk1,decide_eq_true hC];rfl
theorem aao {key draw:Nat} {H:List Nat} (hg:gIn p q g=true) (hk:gIn p q key=true) (hk1:key≠1) (h1:1<q) (hx:x<q) (e:g ^ x%p=key) (hd:draw<q∧draw≠0) :
  nn p q g key (sgN p q g x draw H).1 (sgN p q g x draw H).2 H=true:=by
 obtain⟨⟨hp1,_,_⟩,_⟩:=uW hg;have hx0:x≠0:=by
  rintro rfl;rw[Nat.pow_zero,Nat.mod_eq_of_lt hp1] at e;exact hk1 e.symm
 have hB:sgB p q g x draw=true:=by
  unfold sgB;rw[vy hg,uN h1 hx,uN h1 hd.1];simp[hx0,hd.2]
 have hs:sgN p q g x draw H=(sgC p q g x draw H,(draw+x*sgC p q g x draw H%q)%q):=by
  unfold sgN;rw[hB,sV,sV]
 have hC:sgC p q g x draw H=eC q key (g ^ draw%p) H:=by
  unfold sgC eC;rw[e]
 have hc:sgC p q g x draw H<q:=vM (by omega) _ _;rw[hs];generalize sgC p q g x draw H=c at *;exact acW hg hk hk1 h1 e hd.1 hc hC
theorem oO (hP:Pri q) (hA:u7 p q g h f sec N d l x=true) :
  ckE p q g h f sec N ep d (dVs p q g l N.length) (dYs p q l N N.length) (dPs p q g l N ep d x N.length) (dSg p q g l N ep d x N.length).1 (dSg p q g l N ep d x N.length).2=none:=by
 unfold u7 at hA;simp only[Bool.and_eq_true] at hA;obtain⟨⟨⟨hS,hN⟩,hl⟩,hx⟩:=hA;obtain⟨hlen,hall⟩:=hl;obtain⟨hkg,hks,hn8,hnq,hf,hsec⟩:=nS hS;obtain⟨hg,_⟩:=fe hkg;have h1:=hP.1;have hn:N.length<q:=by omega
 have hlen':=of_decide_eq_true hlen;have hsh:∀ i,shN q l i<q:=fun i=>Nat.mod_lt _ (by omega);have hV:∀ i,dV p q g l i=g ^ shN q l i%p:=fun i=>jb hg _;have hky:∀ i,i<N.length→gIn p q (ky N i)=true:=fun i hi=>(fe (hks i hi).2).1;have hY:∀ i,i<N.length→dY p q l N i=ky N i ^ shN q l i%p:=fun i hi=>jb (hky i hi) _;have aV:∀ i,i<N.length→(dVs p q g l N.length)[i]?.getD 0=g ^ shN q l i%p:=fun i hi=>by
  unfold dVs;rw[List.getElem?_map,List.getElem?_range hi];exact hV i
 have aY:∀ i,i<N.length→(dYs p q l N N.length)[i]?.getD 0=ky N i ^ shN q l i%p:=fun i hi=>by
  unfold dYs;rw[List.getElem?_map,List.getElem?_range hi];exact hY i hi
 unfold ckE;rw[hS,if_pos rfl];have b1:shB p q N d (dVs p q g l N.length) (dYs p q l N N.length) (dPs p q g l N ep d x N.length)=true:=by
  unfold shB;rw[hN];have v1:(dVs p q g l N.length).all (gIn p q)=true:=by
   rw[List.all_eq_true];intro v hv;unfold dVs at hv;obtain⟨i,_,rfl⟩:=List.mem_map.1 hv;rw[hV];exact pT hg (by omega) _
  have v2:(dYs p q l N N.length).all (gIn p q)=true:=by
   rw[List.all_eq_true];intro v hv;unfold dYs at hv;obtain⟨i,hi,rfl⟩:=List.mem_map.1 hv;have hi':=List.mem_range.1 hi;rw[hY i hi'];exact pT (hky i hi') (by omega) _
  rw[v1,v2];simp[dVs,dYs,dPs]
 rw[b1,if_pos rfl];have b2:duB p q N.length (f+sec).toNat (dVs p q g l N.length)=true:=by
  have hc:(f+sec).toNat=l.length:=by omega
  rw[hc];unfold duB;rw[Bool.or_eq_true,Bool.and_eq_true];refine .inr ⟨lU hP hn,?_⟩;rw[List.all_eq_true];intro k hk;have hk':=List.mem_range.1 hk;rw[decide_eq_true_eq];have hz:=gl (l:=l) (k:=k) hP hn8 hn (by omega) (lU hP hn);have e:dVs p q g l N.length=((List.range N.length).map (shN q l)).map (fun e=>g ^ e%p):=by
   unfold dVs;rw[List.map_map];exact List.map_congr_left (fun i _=>hV i)
  obtain⟨⟨hp1,_,_⟩,_⟩:=uW hg;rw[e,aa9 hp1 (by simp[dwL]),mS hg];unfold dwL;rw[hz,Nat.pow_zero,Nat.mod_eq_of_lt hp1];exact (pZ (m:=1) (by omega) (by omega)).symm
 rw[b2,if_pos rfl];have b3:ah p q g N (dVs p q g l N.length) (dYs p q l N N.length) (dPs p q g l N ep d x N.length)=true:=by
  unfold ah;rw[List.all_eq_true];intro i hi;have hi' : i<N.length:=by have:=List.mem_range.1 hi;simpa [dPs] using this
  unfold pfB;rw[aV i hi',aY i hi'];have e1:(N[i]?.getD (0,0)).2=ky N i:=by unfold ky;rw[List.getD_eq_getElem?_getD]
  have e2:(dPs p q g l N ep d x N.length)[i]?.getD (0,0)=dP p q g l N ep d x i:=by
   unfold dPs;rw[List.getElem?_map,List.getElem?_range hi'];rfl
  rw[e1,e2];exact aa6 hg (hky i hi') h1 (hsh i) (ka h1)
 rw[b3,if_pos rfl];obtain⟨hd1,hdn⟩:=uX hN;have hkk:=hks (d - 1) (by omega);unfold aN at hx;simp only[Bool.and_eq_true,decide_eq_true_eq] at hx;have hxq:x<q:=by
  have:=hx.1.1;unfold zF at this;simp only[Bool.and_eq_true,decide_eq_true_eq] at this;exact this.2
 have b4:nn p q g (N[d - 1]?.getD (0,0)).1 (dSg p q g l N ep d x N.length).1 (dSg p q g l N ep d x N.length).2 (ut ep d (dVs p q g l N.length) (dYs p q l N N.length) (dPs p q g l N ep d x N.length))=true:=by
  have e1:(N[d - 1]?.getD (0,0)).1=sgK N d:=by unfold sgK;rw[List.getD_eq_getElem?_getD]
  rw[e1];exact aao hg (fe hkk.1).1 (fe hkk.1).2 h1 hxq hx.2 (ka h1)
 rw[b4,if_pos rfl]
end
end Sx
end
section
open Go Go.RowKit Go.BigFrame
namespace Sx
attribute [local irreducible] DQ DQS WC WI WO WX wd
def nH (P:Nat→Nat→Bool) (xs ys:List Nat):Bool:=(List.range xs.length).all fun i=>P (xs[i]?.getD 0) (ys[i]?.getD 0)
theorem jD {f:Nat} [Cal Tryz.prog f] (caps:List Value) (Pb:Nat→Nat→Bool) (xs ys:List Nat) (px py:Option Addr) (cx cy:Nat) (R:World→Prop) (hst:ye R) (hn:xs.length≤1000)
  (hf:∀ x∈xs,∀ y∈ys,Fn Tryz.prog f ([ze x,ze y]++caps) R (Is (.bool (Pb x y)))) :
  Fn Tryz.prog 55 [.slice px xs.length cx,.slice py ys.length cy,.func (.func f) #[] caps.toArray] (fun w=>RdF zb (.slice px xs.length cx) xs w∧RdF zb (.slice py ys.length cy) ys w∧R w) (Is (.bool (decide (xs.length=ys.length) && nH Pb xs ys))):=by
 refine Fn.enter Tryz.func55 rfl rfl rfl ?_;intro w hw;obtain⟨hwx,hwy,hwR⟩:=hw
 by_cases he:xs.length=ys.length
 case neg =>
  rw[decide_eq_false he,Bool.false_and]
  repeat (first|refine WO.does (yk rfl rfl (by omega)) ?_|refine Ta ?_|(refine Tm ?_;intro _)|refine Tc ?_|exact Tz)
  done
 rw[decide_eq_true he,Bool.true_and]
 repeat (first|refine Tw ?_|(refine Tm ?_;intro _)|exact Tz)
 refine WC.dF rfl (by omega) ?_
 repeat (first|refine Tw ?_|(refine Tm ?_;intro _)|exact Tz)
 refine WC.loopI (σ:=Nat) (fun i=>i≤xs.length∧∀ j,j<i→Pb (xs[j]?.getD 0) (ys[j]?.getD 0)=true) (fun i=>[(1,.slice py ys.length cy),(2,.func (.func f) #[] caps.toArray),(15,.slice px xs.length cx),(16,.int .i64 (xs.length:Int)),(17,.int .i64 (i:Int))]) (fun _=>[]) (fun i=>xs.length - i) 0 (fun i hi=>?_) ⟨Nat.zero_le _,fun j hj=>absurd hj (Nat.not_lt_zero _)⟩
 try dsimp only at hi ⊢
 obtain⟨hi,h0⟩:=hi
 by_cases hlt:i<xs.length
 ·obtain⟨x,hx⟩ : ∃ y,xs[i]?=some y:=⟨_,List.getElem?_eq_getElem (by omega)⟩;obtain⟨y,hy⟩ : ∃ z,ys[i]?=some z:=⟨_,List.getElem?_eq_getElem (by omega)⟩;obtain⟨bx,ox,ex,_,hxs⟩:=hwx.get hx;obtain⟨bY,oy,ey,_,hys⟩:=hwy.get hy;subst ex ey;have hcx:cut (xs.flatMap zb) (ox+i*4 - ox) 4=zb x:=by rw[Nat.add_sub_cancel_left];exact zq zx hx
  have hcy:cut (ys.flatMap zb) (oy+i*4 - oy) 4=zb y:=by rw[Nat.add_sub_cancel_left];exact zq zx hy
  have hadd2:IntKind.i64.wrap ((i:Int)+1)=((i+1:Nat):Int):=zm (by omega) (by omega) (by omega);have hF:=hf x (List.mem_of_getElem? hx) y (List.mem_of_getElem? hy);have hb:Pb (xs[i]?.getD 0) (ys[i]?.getD 0)=Pb x y:=by rw[hx,hy];rfl
  cases hr:Pb x y with
  | true =>
   rw[hr] at hF
   repeat (first|refine Tw ?_|(refine Tm ?_;intro _)|exact Tz)
   refine WC.dT rfl (by omega) ?_
   repeat (first|refine WO.does (zi rfl rfl hadd2) ?_|refine Ta ?_|(refine Tm ?_;intro _)|refine WO.does (za (o':=ox+i*4) rfl rfl hlt rfl) ?_|refine WO.does (zj (vs:=zb x) (hs:=hxs) (hle:=Nat.le_add_right _ _) (hc:=hcx)) ?_|refine WO.does (za (o':=oy+i*4) rfl rfl (by omega) rfl) ?_|refine WO.does (zj (vs:=zb y) (hs:=hys) (hle:=Nat.le_add_right _ _) (hc:=hcy)) ?_|refine WO.acallV (hc:=hF) (hR:=fun w' hm=>hst _ _ hwR hm.mod.below) (k:=?_)|refine Tc ?_|exact Tz)
   exact WX.metI (i+1) (hs:=⟨⟨by omega,fun j hj=>by
    by_cases e:j=i
    ·subst e;rw[hb];exact hr
    ·exact h0 j (by omega)⟩,by show xs.length - (i+1)<xs.length - i;omega⟩)
  | false =>
   rw[hr] at hF;rw[show nH Pb xs ys=false from iu hlt (by rw[hb];exact hr)]
   repeat (first|refine Tw ?_|(refine Tm ?_;intro _)|exact Tz)
   refine WC.dT rfl (by omega) ?_
   repeat (first|refine Ta ?_|(refine Tm ?_;intro _)|refine WO.does (za (o':=ox+i*4) rfl rfl hlt rfl) ?_|refine WO.does (zj (vs:=zb x) (hs:=hxs) (hle:=Nat.le_add_right _ _) (hc:=hcx)) ?_|refine WO.does (za (o':=oy+i*4) rfl rfl (by omega) rfl) ?_|refine WO.does (zj (vs:=zb y) (hs:=hys) (hle:=Nat.le_add_right _ _) (hc:=hcy)) ?_|refine WO.acallV (hc:=hF) (hR:=fun w' hm=>hst _ _ hwR hm.mod.below) (k:=?_)|refine Tc ?_|exact Tz)
   done
 ·have hi2:i=xs.length:=by omega
  rw[show nH Pb xs ys=true by
   unfold nH;rw[List.all_eq_true];exact fun j hj=>h0 j (by have:=List.mem_range.1 hj;omega)]
  repeat (first|refine Tw ?_|(refine Tm ?_;intro _)|exact Tz)
  refine WC.dF rfl (by omega) ?_
  repeat (first|refine Tw ?_|(refine Tm ?_;intro _)|exact Tz)
  done
section
variable (p q g h:Nat) (f sec:Int) (pN pV pY pP:Option Addr) (cN cV cY cP:Nat) (N:List (Nat × Nat)) (ep d:Nat) (V Y:List Nat) (Pr:List (Nat × Nat)) (sC sS:Nat) (l:List Nat) (pz:Option Addr) (cz:Nat)
theorem bD (v x gS:Nat) (hv:v<zc) (hx:x<zc) (hg:g<zc) (hp:p<zc):Fn Tryz.prog 56 ([ze v,ze x]++[pt gS]) (fun w=>Seg w gS 0 (stC p q g h f sec (.slice pN N.length cN))) (Is (.bool (decide (v=exN p g x)))):=by
 have hE:=uk p q g h g x hg hx hp;simp only[rE] at hE;rw[show okV (yC p g) (g ^ x%p)=exN p g x from rfl] at hE;have hl:exN p g x<zc:=rh (n:=x) (a:=g) hp;generalize exN p g x=y at *;generalize okE (yC p g)=e at *;refine Fn.enter Tryz.func56 rfl rfl rfl ?_;intro w hw
 repeat (first|refine Ta ?_|(refine Tm ?_;intro _)|refine WO.does (zj (vs:=zJ p q g h) (hs:=hw)) ?_|refine WO.does (zj (vs:=zb g) (hs:=hw)) ?_|refine WO.acall (hc:=hE) (k:=?_)|refine WO.does (yZ (a:=y) (b:=v) (r:=decide (v=y)) rfl rfl hl hv (decide_eq_decide.2 eq_comm)) ?_|refine Tc ?_|exact Tz)
 done
def aj (p q g h:Nat) (f sec:Int) (N:List (Nat × Nat)) (V l:List Nat):Bool:=y7 p q g h f sec N && (decide ((l.length:Int)=f+sec) && vW q l) && (decide (V.length=N.length) && nH (fun v x=>decide (v=exN p g x)) V (shL q l N.length))
theorem pv {q n:Nat} {l:List Nat}:(shL q l n).length=n:=by simp[shL]
theorem aaT {q n:Nat} {l:List Nat} (h:0<q):∀ a∈shL q l n,a<q:=fun a ha=>by
 unfold shL at ha;obtain⟨j,_,rfl⟩:=List.mem_map.1 ha;exact Nat.mod_lt _ h
theorem rK (hp:p<zc) (hq:q<zc) (hg:g<zc) (hh:h<zc) (hN:z8 N) (hNl:N.length≤100)
  (hf1 : -9223372036854775808≤f) (hf2:f≤9223372036854775807) (hs1 : -9223372036854775808≤sec) (hs2:sec≤9223372036854775807)
  (hV:∀ a∈V,a<zc) (hVl:V.length≤100) (hl:∀ a∈l,a<zc) (hn:l.length≤100) :
  Fn Tryz.prog 16 [stV p q g h f sec (.slice pN N.length cN),dlV ep d (.slice pV V.length cV) (.slice pY Y.length cY) (.slice pP Pr.length cP) sC sS,.slice pz l.length cz]
   (fun w=>RdF zI (.slice pN N.length cN) N w∧RdF zb (.slice pV V.length cV) V w∧RdF zb (.slice pz l.length cz) l w) (Is (.bool (aj p q g h f sec N V l))):=by
 have hS:=zP p q g h f sec pN cN N hp hq hg hh hN (by omega) hf1 hf2 hs1 hs2;unfold aj;cases e0:y7 p q g h f sec N with
 | false =>
  rw[e0] at hS;refine Fn.enter Tryz.func16 rfl rfl rfl ?_;intro w hw;obtain⟨hwN,hwV,hwl⟩:=hw
  repeat (first|refine Ta ?_|(refine Tm ?_;intro _)|refine WO.acallR (hc:=hS) (hR:=fun w1 hm=>(hwN.mod hm.mod)) (k:=?_)|refine Tc ?_|exact Tz)
  done
 | true =>
 rw[e0] at hS;obtain⟨hn1,hn7,hnq,hf0,hs1',hfs5,hgm,hhm⟩:=yM e0;have hP:=fL p q g h f sec (.slice pN N.length cN) l pz cz hl (by omega) hq ⟨hf0,by omega,hfs5⟩;cases e1:(decide ((l.length:Int)=f+sec) && vW q l) with
 | false =>
  rw[e1] at hP;refine Fn.enter Tryz.func16 rfl rfl rfl ?_;intro w hw;obtain⟨hwN,hwV,hwl⟩:=hw
  repeat (first|refine Ta ?_|(refine Tm ?_;intro _)|refine WO.acallR (hc:=hS) (hR:=fun w1 hm=>(hwN.mod hm.mod)) (k:=?_)|refine WO.acallR (hc:=hP) (hR:=fun w1 hm=>(hwl.mod hm.mod)) (k:=?_)|refine Tc ?_|exact Tz)
  done
 | true =>
 rw[e1] at hP;have hall:vW q l=true:=by rw[Bool.and_eq_true] at e1;exact e1.2
 have hO:=gj p q g h l pz cz N.length hl (by omega) hq hall hn1 hn7 (by omega);have hE:=fun gS gL=>jD (f:=56) [pt gS] (fun v x=>decide (v=exN p g x)) V (shL q l N.length) pV (some ⟨gL,0,none⟩) cV N.length (fun w=>Seg w gS 0 (stC p q g h f sec (.slice pN N.length cN))) ye.seg (by omega) (fun v hv x hx=>bD p q g h f sec pN cN N v x gS (hV v hv) (Nat.lt_trans (aaT (by omega) x hx) hq) hg hp);rw[pv] at hE;have hlen:(shL q l N.length).length=N.length:=pv;generalize shL q l N.length=S at *;generalize nH (fun v x=>decide (v=exN p g x)) V S=b at *;refine Fn.enter Tryz.func16 rfl rfl rfl ?_;intro w hw;obtain⟨hwN,hwV,hwl⟩:=hw
 repeat (first|refine Ta ?_|(refine Tm ?_;intro _)|refine WO.acallR (hc:=hS) (hR:=fun w1 hm=>(hwN.mod hm.mod)) (k:=?_)|refine WO.acallR (hc:=hP) (hR:=fun w1 hm=>(hwl.mod hm.mod)) (k:=?_)|refine Tc ?_|exact Tz)
 refine WO.calls (fs:=[]) (cs:=[]) hO rfl rfl rfl (fun w1 hm=>hwl.mod hm.mod) (fun u N1 hu=>?_);obtain⟨s,rfl,rfl,_⟩:=hu;generalize s 0=gL
 try dsimp only[List.cons_append,List.nil_append]
 repeat (first|refine WO.does (zO rfl rfl) ?_|refine Ta ?_|(refine Tm ?_;intro _)|refine WO.acallR (hc:=hE _ _) (hR:=fun w1 hm=>⟨hwV.mod hm.mod,RdF.ownD (Hs.sg hm) hlen,Hs.sg hm⟩) (k:=?_)|refine Tc ?_|exact Tz)
 done
end
end Sx
end
section
open Go Go.RowKit Go.BigFrame
namespace Sx
theorem aam {p q g a b:Nat} (hP:Pri q) (hg:gIn p q g=true) (hg1:g≠1) (ha:a<q) (hb:b<q) (h:g ^ a%p=g ^ b%p):a=b:=by
 obtain⟨⟨h1,h2,h3⟩,h4⟩:=uW hg;have key:∀ a b,a<b→b<q→g ^ a%p=g ^ b%p→False:=by
  intro a b hab hb h;have e1:g ^ (a+(q - a))%p=g ^ (b+(q - a))%p:=by rw[← vZ,← vZ,h]
  rw[show a+(q - a)=q by omega,h4,show b+(q - a)=b - a+q by omega] at e1;have e2:g ^ (b - a+q)%p=g ^ (b - a)%p:=eE hg (by rw[Nat.add_mod_right]);rw[e2] at e1;have hd:=hP.2 (b - a) (by omega) (by omega);have hi:=(tM hP.1 (by omega:b - a<q) hd).1;have e3:g ^ ((b - a)*uy (b - a) q)%p=g ^ 1%p:=eE hg (by rw[Nat.mul_comm,hi,Nat.mod_eq_of_lt hP.1]);rw[← uj,← e1,Nat.one_pow,Nat.mod_eq_of_lt h1,Nat.pow_one,Nat.mod_eq_of_lt h3] at e3;exact hg1 e3.symm
 rcases Nat.lt_trichotomy a b with h'|h'|h'
 ·exact (key a b h' hb h).elim
 ·exact h'
 ·exact (key b a h' ha h.symm).elim
def ud:List Int→Int→Int
 | [],_=>0
 | c::r,x=>c+x*ud r x
theorem qX (D:List Int) (t x:Int):ud (D++[t]) x=ud D x+t*x ^ D.length:=by
 induction D with
 | nil=>simp[ud]
 | cons a r ih =>
  rw[List.cons_append,ud,ud,ih,List.length_cons,Int.pow_succ]
  grind
theorem nA:∀ (l m:List Nat) (x:Nat),l.length=m.length→ud (List.zipWith (fun (a b:Nat)=>(a:Int) - (b:Int)) l m) (x:Int)=(z7 l x:Int) - (z7 m x:Int)
 | [],[],_,_=>by simp[ud,z7]
 | [],_::_,_,h=>by simp at h
 | _::_,[],_,h=>by simp at h
 | a::l,b::m,x,h=>by
  rw[List.zipWith_cons_cons,ud,nA l m x (by simpa using h),z7,z7];push_cast
  grind
theorem nK {n:Nat} (hn:n<8):∀ (l:List Int) (k:Nat),k+l.length<n→((List.range n).map fun i=>pM n (i+1)*((i+1:Nat):Int) ^ k*ud l ((i+1:Nat):Int)).sum=0
 | [],k,_=>by
  have:(fun i:Nat=>pM n (i+1)*((i+1:Nat):Int) ^ k*ud [] ((i+1:Nat):Int))=fun _=>(0:Int):=by funext i;simp[ud]
  rw[this];generalize List.range n=L
  induction L with
  | nil=>rfl
  | cons a r ih=>simp only[List.map_cons,List.sum_cons,ih];rfl
 | c::r,k,h=>by
  have h1:=fx n (List.mem_range.2 hn) k (List.mem_range.2 (by simp at h;omega));have h2:=nK hn r (k+1) (by simp at h;omega);have e:(fun i:Nat=>pM n (i+1)*((i+1:Nat):Int) ^ k*ud (c::r) ((i+1:Nat):Int))=fun i=>c*(pM n (i+1)*((i+1:Nat):Int) ^ k)+pM n (i+1)*((i+1:Nat):Int) ^ (k+1)*ud r ((i+1:Nat):Int):=by
   funext i;rw[ud,Int.pow_succ]
   grind
  rw[e,pU,r8,h1,h2];simp
theorem aac:∀ n∈List.range 8,0<n→((List.range n).map fun i=>pM n (i+1)*((i+1:Nat):Int) ^ (n - 1)).sum=(iA (n - 1):Int):=by decide
theorem kM {α:Type} (q:Int) (f:α→Int):∀ L:List α,(∀ i∈L,q ∣ f i)→q ∣ (L.map f).sum
 | [],_=>by simp
 | a::r,h=>by
  simp only[List.map_cons,List.sum_cons];exact Int.dvd_add (h a List.mem_cons_self) (kM q f r (fun i hi=>h i (List.mem_cons_of_mem _ hi)))
theorem nN {q:Nat} (hP:Pri q):∀ (n:Nat) (D:List Int),D.length=n→n<8→n<q→(∀ i,i<n→(q:Int) ∣ ud D ((i+1:Nat):Int))→∀ d∈D,(q:Int) ∣ d
 | 0,D,h,_,_,_=>by
  rw[List.length_eq_zero_iff.1 h];simp
 | n+1,D,h,h8,hq,hz=>by
  rcases List.eq_nil_or_concat D with rfl|⟨E,t,rfl⟩
  ·simp at h
  rw[List.concat_eq_append] at *;have hE:E.length=n:=by simpa using h
  have e:(fun i:Nat=>pM (n+1) (i+1)*ud (E++[t]) ((i+1:Nat):Int))=fun i=>pM (n+1) (i+1)*((i+1:Nat):Int) ^ 0*ud E ((i+1:Nat):Int)+t*(pM (n+1) (i+1)*((i+1:Nat):Int) ^ (n+1 - 1)):=by
   funext i;rw[qX,hE,Int.pow_zero,Nat.add_sub_cancel]
   grind
  have hs:=kM (q:Int) (fun i:Nat=>pM (n+1) (i+1)*ud (E++[t]) ((i+1:Nat):Int)) (List.range (n+1)) (fun i hi=>Int.dvd_mul_of_dvd_right (hz i (List.mem_range.1 hi)));rw[e,pU,r8,nK h8 E 0 (by omega),aac (n+1) (List.mem_range.2 h8) (by omega),Int.zero_add,Nat.add_sub_cancel] at hs;have ht:(q:Int) ∣ t:=by
   have hc:Nat.Coprime q (iA n):=Nat.Coprime.symm (mR hP n (by omega));have hs' : q ∣ iA n*t.natAbs:=by
    have:=Int.natAbs_dvd_natAbs.2 hs;rw[Int.natAbs_mul,Nat.mul_comm] at this;simpa using this
   exact Int.ofNat_dvd_left.2 (Nat.Coprime.dvd_of_dvd_mul_left hc hs')
  intro d hd
  rcases List.mem_append.1 hd with hd|hd
  ·refine nN hP n E hE (by omega) (by omega) (fun i hi=>?_) d hd;have:=hz i (by omega);rw[qX] at this;exact (Int.dvd_add_left (Int.dvd_mul_of_dvd_left ht)).1 this
  ·rw[List.mem_singleton.1 hd];exact ht
theorem iQ {q:Nat} (hP:Pri q) {l m:List Nat} (hlm:l.length=m.length) (h8:l.length<8) (hq:l.length<q) (hl:∀ a∈l,a<q) (hm:∀ a∈m,a<q) (h:∀ i,i<l.length→z7 l (i+1)%q=z7 m (i+1)%q):l=m:=by
 have hz:=nN hP l.length (List.zipWith (fun (a b:Nat)=>(a:Int) - (b:Int)) l m) (by simp[hlm]) h8 hq (fun i hi=>by
  rw[nA l m _ hlm];have e:=h i hi;have h1:=uT (q:=q) (z7 l (i+1));have h2:=uT (q:=q) (z7 m (i+1));rw[e] at h1;have:=Int.dvd_sub h1 h2;rwa [show ∀ a b c:Int,a - c - (b - c)=a - b by intro a b c;omega] at this)
 refine List.ext_getElem hlm (fun i h1 h2=>?_);have hd:=hz ((l[i]:Int) - (m[i]:Int)) (by
  rw[List.mem_iff_getElem];exact⟨i,by simp;omega,by simp⟩)
 have ha:=hl l[i] (List.getElem_mem h1);have hb:=hm m[i] (List.getElem_mem h2);obtain⟨c,hc⟩:=hd;have hc0:c=0:=by
  rcases Int.lt_trichotomy c 0 with h'|h'|h'
  ·have:(q:Int)*c≤(q:Int)*(-1):=Int.mul_le_mul_of_nonneg_left (by omega) (by omega);omega
  ·exact h'
  ·have:(q:Int)*1≤(q:Int)*c:=Int.mul_le_mul_of_nonneg_left (by omega) (by omega);omega
 subst hc0;omega
section
variable {p q g h:Nat} {f sec:Int} {N:List (Nat × Nat)} {ep d x:Nat} {l m:List Nat}
theorem aA {α:Type} {f g:α→Bool}:∀ {L:List α},(∀ i∈L,f i=g i)→L.all f=L.all g
 | [],_=>rfl
 | a::r,h=>by rw[List.all_cons,List.all_cons,h a List.mem_cons_self,aA (fun i hi=>h i (List.mem_cons_of_mem _ hi))]
theorem abe:nH (fun v x=>decide (v=exN p g x)) (dVs p q g l N.length) (shL q m N.length)=(List.range N.length).all fun i=>decide (exN p g (shN q l i)=exN p g (shN q m i)):=by
 unfold nH;rw[show (dVs p q g l N.length).length=N.length by simp[dVs]];refine aA (fun i hi=>?_);have hi':=List.mem_range.1 hi;unfold dVs shL;rw[List.getElem?_map,List.getElem?_map,List.getElem?_range hi'];rfl
theorem pA (hP:Pri q) (hS:y7 p q g h f sec N=true) (hlen:(l.length:Int)=f+sec) (hall:vW q l=true) :
  aj p q g h f sec N (dVs p q g l N.length) m=decide (m=l):=by
 obtain⟨hkg,hks,hn8,hnq,hf,hsec⟩:=nS hS;obtain⟨hg,hg1⟩:=fe hkg;have hcn:l.length≤N.length:=by
  unfold y7 at hS;simp only[Bool.and_eq_true,decide_eq_true_eq] at hS;omega
 have h1:=hP.1;unfold aj;rw[hS,abe]
 by_cases e:m=l
 ·subst e;rw[hlen,hall];simp[dVs]
 ·rw[decide_eq_false e]
  by_cases h2:(m.length:Int)=f+sec∧vW q m=true
  ·have hml:l.length=m.length:=by omega
   have hne:¬ ∀ i,i<l.length→z7 l (i+1)%q=z7 m (i+1)%q:=fun hh=>e (iQ hP hml (by omega) (by omega) (vF hall).2 (vF h2.2).2 hh).symm;obtain⟨i,hi⟩:=Classical.not_forall.1 hne;obtain⟨hi,hne⟩:=Classical.not_imp.1 hi;have:((List.range N.length).all fun i=>decide (exN p g (shN q l i)=exN p g (shN q m i)))=false:=by
    rw[List.all_eq_false];refine⟨i,List.mem_range.2 (by omega),?_⟩;rw[jb hg,jb hg,decide_eq_true_eq];exact fun hh=>hne (aam hP hg hg1 (Nat.mod_lt _ (by omega)) (Nat.mod_lt _ (by omega)) hh)
   rw[this];simp
  ·have:(decide ((m.length:Int)=f+sec) && vW q m)=false:=by
    rw[Bool.and_eq_false_iff]
    by_cases h3:(m.length:Int)=f+sec
    ·refine .inr ?_;cases h4:vW q m with
     | false=>rfl
     | true=>exact absurd ⟨h3,h4⟩ h2
    ·exact .inl (decide_eq_false h3)
   rw[this];simp
end
section
variable {p q g h:Nat} {f sec:Int} {N M:List (Nat × Nat)}
theorem gv (k:Nat):y7 p q g h f sec (N.drop k++N.take k)=y7 p q g h f sec N:=by
 have hl:(N.drop k++N.take k).length=N.length:=by simp only[List.length_append,List.length_drop,List.length_take];omega
 have ha:∀ F:Nat × Nat→Bool,(N.drop k++N.take k).all F=N.all F:=fun F=>by
  rw[List.all_append,Bool.and_comm,← List.all_append,List.take_append_drop]
 unfold y7;rw[hl,ha]
theorem kX (h1:(M.length:Int)<3*f+1∨7<(M.length:Int)):y7 p q g h f sec M=false:=by
 unfold y7
 rcases h1 with h1|h1
 ·rw[decide_eq_false (show ¬ 3*f+1≤(M.length:Int) by omega)];simp
 ·rw[decide_eq_false (show ¬ (M.length:Int)≤7 by omega)];simp
theorem kf (h1:f+1<sec∨sec<1):y7 p q g h f sec M=false:=by
 unfold y7
 rcases h1 with h1|h1
 ·rw[decide_eq_false (show ¬ sec≤f+1 by omega)];simp
 ·rw[decide_eq_false (show ¬ 1≤sec by omega)];simp
theorem kQ {k:Nat × Nat} (hk:k∈M) (hb:(kB p q k.1 && kB p q k.2)=false):y7 p q g h f sec M=false:=by
 unfold y7;have:(M.all fun k=>kB p q k.1 && kB p q k.2)=false:=by
  rw[List.all_eq_false];exact⟨k,hk,by rw[hb];simp⟩
 rw[this];simp
theorem ab9:kB p q 1=false:=by unfold kB;simp
theorem adD:kB p q p=false:=by unfold kB gIn yC;simp
end
def knN:List (Nat × Nat):=[(3,8),(12,3),(2,4),(8,13)]
theorem acL:Pri 11:=⟨by decide,fun m h0 h1=>by
 have:∀ m∈List.range 11,0<m→Nat.gcd m 11=1:=by decide
 exact this m (List.mem_range.2 h1) h0⟩
theorem fK:y7 23 11 4 9 1 2 knN=true:=by decide +kernel
theorem ef:u7 23 11 4 9 1 2 knN 1 [1,2,3] 4=true:=by decide +kernel
theorem bi:u7 23 11 4 9 1 2 knN 9 [1,2,3] 4=false:=by decide +kernel
theorem cn (ep:Nat):ckE 23 11 4 9 1 2 knN ep 1 (dVs 23 11 4 [1,2,3] 4) (dYs 23 11 [1,2,3] knN 4) (dPs 23 11 4 [1,2,3] knN ep 1 4 4) (dSg 23 11 4 [1,2,3] knN ep 1 4 4).1 (dSg 23 11 4 [1,2,3] knN ep 1 4 4).2=none:=oO (N:=knN) acL ef
theorem ce:aj 23 11 4 9 1 2 knN (dVs 23 11 4 [1,2,3] 4) [1,2,3]=true:=by
 have:=pA (N:=knN) (m:=[1,2,3]) acL fK (l:=[1,2,3]) (by decide) (by decide);rw[decide_eq_true rfl] at this;exact this
theorem aaM:ckE 23 11 4 9 1 2 knN 0 0 [] [] [] 0 0=some 4:=by
 unfold ckE;rw[fK,if_pos rfl,show shB 23 11 knN 0 [] [] []=false by decide];rfl
theorem lQ:y7 0 0 0 0 0 0 []=false:=by decide
theorem jV (ep d:Nat) (V Y:List Nat) (Pr:List (Nat × Nat)) (sC sS:Nat):ckE 0 0 0 0 0 0 [] ep d V Y Pr sC sS=some 1:=by
 unfold ckE;rw[lQ];rfl
section
variable {p q g:Nat} {N:List (Nat × Nat)} {ep d x n:Nat} {l:List Nat}
theorem iU (hp:p<zc):∀ a∈dVs p q g l n,a<zc:=fun a ha=>by
 unfold dVs at ha;obtain⟨i,_,rfl⟩:=List.mem_map.1 ha;exact rh hp
theorem an (hp:p<zc):∀ a∈dYs p q l N n,a<zc:=fun a ha=>by
 unfold dYs at ha;obtain⟨i,_,rfl⟩:=List.mem_map.1 ha;exact rh hp
theorem aH (hq:q<zc) (h0:0<q):z8 (dPs p q g l N ep d x n):=fun a ha=>by
 unfold dPs at ha;obtain⟨i,_,rfl⟩:=List.mem_map.1 ha;exact aci h0 hq
theorem ab (hq:q<zc) (h0:0<q):(dSg p q g l N ep d x n).1<zc∧(dSg p q g l N ep d x n).2<zc:=by
 exact acx h0 hq
end
def vI (n:Nat):Bool:=decide (2≤n) && decide (n<4294967296) && (List.range n).all fun e=>decide (e<2) || decide (n<e*e) || decide (n%e≠0)
theorem qW (n:Nat):∀ m,n<m*m→∃ d,n<d*d∧∀ e,e<d→e*e≤n
 | 0,h=>by simp at h
 | m+1,h=>by
  rcases Nat.lt_or_ge n (m*m) with h1|h1
  ·exact qW n m h1
  ·exact⟨m+1,h,fun e he=>Nat.le_trans (Nat.mul_le_mul (by omega:e≤m) (by omega:e≤m)) h1⟩
theorem eL {n:Nat} (h:vI n=true):Pri n:=by
 unfold vI at h;simp only[Bool.and_eq_true,decide_eq_true_eq,List.all_eq_true,Bool.or_eq_true,List.mem_range] at h;obtain⟨⟨h2,_⟩,ha⟩:=h;obtain⟨d,hd,hs⟩:=qW n n (by have:=Nat.mul_le_mul_right n h2;omega);refine fo h2 hd (fun e he1 he2=>?_);have he:=hs e he2;have hen:e<n:=by have:=Nat.mul_le_mul_right e he1;omega
 rcases ha e hen with (h|h)|h
 ·omega
 ·omega
 ·exact h
theorem ed {n d:Nat} (h2:2≤n) (h3:n<4294967296) (hd:n<d*d) (h:∀ e,2≤e→e<d→n%e≠0):vI n=true:=by
 unfold vI;simp only[Bool.and_eq_true,decide_eq_true_eq,List.all_eq_true,Bool.or_eq_true,List.mem_range];refine⟨⟨h2,h3⟩,fun e _=>?_⟩
 rcases Nat.lt_or_ge e 2 with h1|h1
 ·exact .inl (.inl h1)
 ·rcases Nat.lt_or_ge e d with h4|h4
  ·exact .inr (h e h1 h4)
  ·exact .inl (.inr (Nat.lt_of_lt_of_le hd (Nat.mul_le_mul h4 h4)))
theorem cF {n d:Nat} (h2:2≤d) (hd:d*d≤n) (h:n%d=0):vI n=false:=by
 cases hb:vI n with
 | false=>rfl
 | true =>
  exfalso;unfold vI at hb;simp only[Bool.and_eq_true,decide_eq_true_eq,List.all_eq_true,Bool.or_eq_true,List.mem_range] at hb;have hdn:d<n:=by have:=Nat.mul_le_mul_right d h2;omega
  rcases hb.2 d hdn with (h1|h1)|h1
  ·omega
  ·omega
  ·exact h1 h
theorem oK {n:Nat} (h:n<2∨4294967296≤n):vI n=false:=by
 unfold vI
 rcases h with h|h
 ·rw[decide_eq_false (show ¬ 2≤n by omega)];rfl
 ·rw[decide_eq_false (show ¬ n<4294967296 by omega)];simp
def jU (p q g h:Nat):Bool:=decide (zu p≤32) && decide (zu q≤31) && decide (p=2*q+1) && vI p && vI q && gIn p q g && gIn p q h && decide (g≠1) && decide (h≠1)
def pJ (p q g h:Nat) (f sec:Int) (N:List (Nat × Nat)) (l:List Nat):Bool:=decide (N.length≤100) && decide (l.length≤100) && jU p q g h && y7 p q g h f sec N && decide ((l.length:Int)=f+sec) && vW q l
section
variable {p q g h:Nat} {f sec:Int} {N:List (Nat × Nat)} {l:List Nat}
theorem bT (hg:jU p q g h=true):Pri q:=by
 unfold jU at hg;simp only[Bool.and_eq_true] at hg;exact eL hg.1.1.1.1.2
theorem rX (hF:pJ p q g h f sec N l=true):Pri q∧y7 p q g h f sec N=true∧(l.length:Int)=f+sec∧vW q l=true∧N.length≤100∧l.length≤100:=by
 unfold pJ at hF;simp only[Bool.and_eq_true,decide_eq_true_eq] at hF;obtain⟨⟨⟨⟨⟨h1,h2⟩,h3⟩,h4⟩,h5⟩,h6⟩:=hF;exact⟨bT h3,h4,h5,h6,h1,h2⟩
end
section
variable (p q g h:Nat) (f sec:Int) (pN pV pY pP:Option Addr) (cN cV cY cP:Nat) (N:List (Nat × Nat)) (ep d:Nat) (V Y:List Nat) (Pr:List (Nat × Nat)) (sC sS:Nat)
theorem ik {p q g h:Nat} {f sec:Int} {N:List (Nat × Nat)} {c:Nat} (hs:y7 p q g h f sec N=true) (hc:f+sec=(c:Int)):c≤N.length:=by
 unfold y7 at hs;simp only[Bool.and_eq_true,decide_eq_true_eq] at hs;omega
theorem aaD (hp:p<zc) (hq:q<zc) (hg:g<zc) (hh:h<zc) (hN:z8 N) (hNl:N.length≤100)
  (hf1 : -9223372036854775808≤f) (hf2:f≤9223372036854775807) (hs1 : -9223372036854775808≤sec) (hs2:sec≤9223372036854775807)
  (hd:d<256) (hV:∀ a∈V,a<zc) (hY:∀ a∈Y,a<zc) (hPr:z8 Pr) (hVl:V.length≤100) (hYl:Y.length≤100) (hPl:Pr.length≤100) (hsC:sC<zc) (hsS:sS<zc) (gS gD gg gn gi:Nat) :
  al (CkR p q g h f sec pN pV pY pP cN cV cY cP N ep d V Y Pr sC sS gS gD gg gn gi)
   [(46,[pt gS]),(48,[pt gS,pt gD,pt gn,pt gi]),(49,[pt gg,pt gD,pt gS]),(51,[pt gD,pt gg,pt gS]),(53,[pt gg,pt gS,pt gD])] (ckE p q g h f sec N ep d V Y Pr sC sS):=by
 have h2:=adp p q g h f sec pN pV pY pP cN cV cY cP N ep d V Y Pr sC sS gS gD gg gn gi hp hq hg hh hN (by omega) hf1 hf2 hs1 hs2;unfold ckE;cases e0:y7 p q g h f sec N with
 | false =>
  rw[e0] at h2;rw[if_neg (by decide)] at h2 ⊢;exact .hit inferInstance h2
 | true =>
 rw[e0,if_pos rfl] at h2;rw[if_pos rfl];refine .go inferInstance h2 ?_;obtain⟨hn1,hn7,hnq,hf0,hs1',hfs5,hgm,hhm⟩:=yM e0;have h3:=ac3 p q g h f sec pN pV pY pP cN cV cY cP N ep d V Y Pr sC sS gS gD gg gn gi hp hq hd hNl hn1 (by omega) (by omega) (by omega) hV hY;cases e1:shB p q N d V Y Pr with
 | false =>
  rw[e1] at h3;rw[if_neg (by decide)] at h3 ⊢;exact .hit inferInstance h3
 | true =>
 rw[e1,if_pos rfl] at h3;rw[if_pos rfl];refine .go inferInstance h3 ?_;unfold shB at e1;simp only[Bool.and_eq_true,decide_eq_true_eq] at e1;obtain⟨⟨⟨⟨⟨n1,n2⟩,n3⟩,n4⟩,n5⟩,n6⟩:=e1;obtain⟨hd1,hdn⟩:=uX n1;have hZ:aaB p V:=⟨hV,fun z hz=>vy (List.all_eq_true.1 n5 z hz)⟩;obtain⟨c,hc⟩ : ∃ c:Nat,f+sec=(c:Int):=⟨(f+sec).toNat,by omega⟩;have hcN:=ik e0 hc;have h4:=acZ p q g h f sec pN pV pY pP cN cV cY cP N ep d V Y Pr sC sS gS gD gg gn gi N.length c rfl hc n2 hn1 hn7 (by omega) hcN (by omega) hq hp (yI hgm).1 hZ;rw[show (f+sec).toNat=c by omega];cases e2:duB p q N.length c V with
 | false =>
  rw[e2] at h4;rw[if_neg (by decide)] at h4 ⊢;exact .hit inferInstance h4
 | true =>
 rw[e2,if_pos rfl] at h4;rw[if_pos rfl];refine .go inferInstance h4 ?_;have h5:=acV p q g h f sec pN pV pY pP cN cV cY cP N ep d V Y Pr sC sS gS gD gg gn gi (by omega) (by omega) (by omega) (by omega) hN hV hY hPr hp hq hg;cases e3:ah p q g N V Y Pr with
 | false =>
  rw[e3] at h5;rw[if_neg (by decide)] at h5 ⊢;exact .hit inferInstance h5
 | true =>
 rw[e3,if_pos rfl] at h5;rw[if_pos rfl];refine .go inferInstance h5 ?_;obtain⟨k,hk⟩ : ∃ z,N[d - 1]?=some z:=⟨_,List.getElem?_eq_getElem (by omega)⟩;have hkm:=hN _ (List.mem_of_getElem? hk);have h6:=adc p q g h f sec pN pV pY pP cN cV cY cP N ep d V Y Pr sC sS gS gD gg gn gi k hk hd1 hd (by rintro rfl;simp at n2;omega) (by rintro rfl;simp at n3;omega) (by rintro rfl;simp at n4;omega) (by omega) (by omega) (by omega) hkm.1 hkm.2 hp hq hg hsC hsS hgm (ui _ _) (nc _ _);rw[hk,show (some k).getD (0,0)=k from rfl];cases e4:nn p q g k.1 sC sS (ut ep d V Y Pr) with
 | false =>
  rw[e4] at h6;rw[if_neg (by decide)] at h6 ⊢;exact .hit inferInstance h6
 | true =>
 rw[e4,if_pos rfl] at h6;rw[if_pos rfl];exact .go inferInstance h6 .nil
end
end Sx
end
end Go.Proofs.YtegjemedanccoaaGreatDoor
