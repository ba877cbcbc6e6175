/- Part 50 of the proof. -/
import Derived.Test.YtegjemedanccoaaGreatDoorM49
import Derived.Test.YtegjemedanccoaaGreatDoorCards
import Derived.Test.YtegjemedanccoaaGreatDoorTie
import Derived.ProofKit
import Derived.LaidMore
import Derived.Stop.Joined
import Derived.SevenTiedAt
import Derived.ChangeArms
import Derived.OpenShut
import Derived.DataReads
import Derived.WideShapes
set_option linter.unusedSimpArgs false
set_option linter.unusedVariables false
set_option maxHeartbeats 8000000
namespace Go.Proofs.YtegjemedanccoaaGreatDoor
section
open Go Go.RowKit Go.BigFrame
namespace Sx
attribute [local irreducible] DQ DQS WC WO WX wd
section
variable {w0:World} {gs:List Nat} {K:List (Nat × Value)} {L:List Ent}
theorem cZ (b:Bool) (w:World):(binOp .eql 4 (.bool b) (.bool b)).run Tryz.prog w=.ok (.bool true) w:=by cases b<;>kernel_rfl
theorem acP {x y:Operand} {yt ty:TypeId} {b:Bool} (hx:ev K x=some (.bool b)) (hy:ev K y=some (.bool b)):Does Tryz.prog w0 gs K L (.binOp .eql 4 x y yt) ty (.bool true):=by
 intro ac w hk _ o ho _;simp only[execOp,ho,hk.eval hx,hk.eval hy,Sem.run_bind,mV,Result.andThen_ok,cZ,Sem.run_pure]
end
theorem RdF.dropC {α:Type} {f:α→List Value} {k:Nat} (hk:∀ x,(f x).length=k) {b o n c c' : Nat} {xs:List α} {w:World} (h:RdF f (.slice (some ⟨b,o,none⟩) n c) xs w) (hn:xs.length=n) (hc:n≤c) {i:Nat} (hi:i≤n):RdF f (.slice (gy (some ⟨b,o,none⟩) c i k) (n - i) c') (xs.drop i) w:=by
 unfold gy;split
 ·rename_i e;have e2:n - i=0:=by omega
  have e3:xs.drop i=[]:=List.drop_of_length_le (by omega);rw[e2,e3];exact⟨_,_,rfl,.inr ⟨b,o,rfl,fun j v hv=>by simp at hv⟩⟩
 ·rw[Option.map_some,vt];exact h.drop hk hn hi
theorem eA {p q g h:Nat} {f sec:Int} {N:List (Nat × Nat)} {V l:List Nat} (hl:(l.length:Int)≠f+sec):aj p q g h f sec N V l=false:=by
 unfold aj;rw[decide_eq_false hl];simp
section
variable (p q g h:Nat) (f sec:Int) (pt:Option Addr) (c:Nat) (N:List (Nat × Nat)) (ep d x:Nat) (pz:Option Addr) (cz:Nat) (l:List Nat) (pm:Option Addr) (cm:Nat) (m:List Nat)
theorem fp (hp:p<zc) (hq:q<zc) (hg:g<zc) (hh:h<zc) (hN:z8 N) (hl:∀ a∈l,a<zc) (hm:∀ a∈m,a<zc) (hcap:l.length≤cz)
  (hf1 : -9223372036854775808≤f) (hf2:f≤9223372036854775807) (hs1 : -9223372036854775808≤sec) (hs2:sec≤9223372036854775807) (hd:d<256) (hx:x<zc) (hep:ep<18446744073709551616) :
  Fn Tryz.prog 5 [stV p q g h f sec (.slice pt N.length c),gdV ep d (.slice pz l.length cz) x,.slice pm m.length cm]
   (fun w=>(RdF zI (.slice pt N.length c) N w∧RdF zb (.slice pz l.length cz) l w∧RdF zb (.slice pm m.length cm) m w)∧tI w) (Is (.bool true)):=by
 have hA:=uB;have hF:=oq p q g h f sec pt c N pz cz l hp hq hg hh hN hl hf1 hf2 hs1 hs2;cases e1:pJ p q g h f sec N l with
 | false =>
  rw[e1] at hF;refine Fn.enter Tryz.func5 rfl rfl rfl ?_;intro w hw;obtain⟨⟨wN,wl,wm⟩,wH⟩:=hw
  repeat (first|refine Ta ?_|(refine Tm ?_;intro _)|refine WO.acallR (hc:=hF) (hR:=fun w1 hm=>⟨wN.mod hm.mod,wl.mod hm.mod⟩) (k:=?_)|refine WO.acallR (hc:=hA) (hR:=fun w1 hm=>wH.mod hm.mod (by simp)) (k:=?_)|refine Tc ?_|exact Tz)
  done
 | true =>
 rw[e1] at hF;obtain⟨hP,hS,hlen,hall,hNl,hln⟩:=rX e1
 by_cases t2:100<m.length
 ·refine Fn.enter Tryz.func5 rfl rfl rfl ?_;intro w hw;obtain⟨⟨wN,wl,wm⟩,wH⟩:=hw
  repeat (first|refine WO.does (vE rfl rfl (by omega)) ?_|refine Ta ?_|(refine Tm ?_;intro _)|refine WO.acallR (hc:=hF) (hR:=fun w1 hm=>⟨wN.mod hm.mod,wl.mod hm.mod⟩) (k:=?_)|refine WO.acallR (hc:=hA) (hR:=fun w1 hm=>wH.mod hm.mod (by simp)) (k:=?_)|refine Tc ?_|exact Tz)
  done
 cases e3:u7 p q g h f sec N d l x with
 | false =>
  have hD:=m5 p q g h f sec pt c N ep d x pz cz l hp hq hg hh hN hNl hl hln hf1 hf2 hs1 hs2 hd hx e3;refine Fn.enter Tryz.func5 rfl rfl rfl ?_;intro w hw;obtain⟨⟨wN,wl,wm⟩,wH⟩:=hw
  repeat (first|refine WO.does (zC rfl rfl (by omega)) ?_|refine WO.does (yk rfl rfl (by decide)) ?_|refine WO.does (zB rfl rfl rfl) ?_|refine Ta ?_|(refine Tm ?_;intro _)|refine WO.acallR (hc:=hF) (hR:=fun w1 hm=>⟨wN.mod hm.mod,wl.mod hm.mod⟩) (k:=?_)|refine WO.acallR (hc:=hD) (hR:=fun w1 hm=>⟨wN.mod hm.mod,wl.mod hm.mod⟩) (k:=?_)|refine Tc ?_|exact Tz)
  done
 | true =>
 have hD:=ms p q g h f sec pt c N ep d x pz cz l hp hq hg hh hN hNl hl hln hf1 hf2 hs1 hs2 hd hx hep e3;have hsp:=yM hS;obtain⟨hn1,hn7,hnq,hf0,hsec1,hfs,hmg,hmh⟩:=hsp;have hl0:0<l.length:=by omega
 have hVok:=iU (q:=q) (g:=g) (l:=l) (n:=N.length) hp;have hVl:(dVs p q g l N.length).length=N.length:=by simp[dVs]
 have hYl:(dYs p q l N N.length).length=N.length:=by simp[dYs]
 have hPl:(dPs p q g l N ep d x N.length).length=N.length:=by simp[dPs]
 have hsame:=pA (m:=m) hP hS hlen hall;have hW1:=fun gV gY gP=>rK p q g h f sec pt (some ⟨gV,0,none⟩) (some ⟨gY,0,none⟩) (some ⟨gP,0,none⟩) c N.length N.length N.length N ep d (dVs p q g l N.length) (dYs p q l N N.length) (dPs p q g l N ep d x N.length) (dSg p q g l N ep d x N.length).1 (dSg p q g l N ep d x N.length).2 m pm cm hp hq hg hh hN hNl hf1 hf2 hs1 hs2 hVok (by omega) hm (by omega);have hW2:=fun gV gY gP g9 c9=>rK p q g h f sec pt (some ⟨gV,0,none⟩) (some ⟨gY,0,none⟩) (some ⟨gP,0,none⟩) c N.length N.length N.length N ep d (dVs p q g l N.length) (dYs p q l N N.length) (dPs p q g l N ep d x N.length) (dSg p q g l N ep d x N.length).1 (dSg p q g l N ep d x N.length).2 (l++[0]) (some ⟨g9,0,none⟩) c9 hp hq hg hh hN hNl hf1 hf2 hs1 hs2 hVok (by omega) (fun a ha=>by
  rcases List.mem_append.1 ha with h|h
  ·exact hl a h
  ·rw[List.mem_singleton.1 h];exact zp) (by rw[List.length_append];show l.length+1≤100;omega)
 have hW3:=fun gV gY gP p9 c9=>rK p q g h f sec pt (some ⟨gV,0,none⟩) (some ⟨gY,0,none⟩) (some ⟨gP,0,none⟩) c N.length N.length N.length N ep d (dVs p q g l N.length) (dYs p q l N N.length) (dPs p q g l N ep d x N.length) (dSg p q g l N ep d x N.length).1 (dSg p q g l N ep d x N.length).2 (l.drop 1) p9 c9 hp hq hg hh hN hNl hf1 hf2 hs1 hs2 hVok (by omega) (fun a ha=>hl a (List.mem_of_mem_drop ha)) (by rw[List.length_drop];omega);rw[hsame] at hW1;have hm1:(l++[0]).length=l.length+1:=by simp
 rw[eA (l:=l++[0]) (by rw[hm1];omega),hm1] at hW2;rw[eA (l:=l.drop 1) (by rw[List.length_drop];omega),List.length_drop] at hW3;have hSN:=mJ m l pm pz cm cz (by omega) (by omega) hm hl;generalize decide (m=l)=bb at *;generalize dSg p q g l N ep d x N.length=sg at *;generalize dVs p q g l N.length=Vs at *;generalize dYs p q l N N.length=Ys at *;generalize dPs p q g l N ep d x N.length=Ps at *;simp only[hVl,hYl,hPl] at hW1 hW2 hW3;have hlL:(l.flatMap zb).length=l.length*4:=zt zx l;have hm0:(l++[0]).flatMap zb=l.flatMap zb++zb 0:=by rw[List.flatMap_append];simp
 obtain⟨y,hy⟩ : ∃ y,l[0]?=some y:=⟨_,List.getElem?_eq_getElem hl0⟩;refine Fn.enter Tryz.func5 rfl rfl rfl ?_;intro w hw;obtain⟨⟨wN,wl,wm⟩,wH⟩:=hw;obtain⟨b,o,rfl,_,_⟩:=id wl |>.get hy
 have wD:RdF zb (.slice (gy (some ⟨b,o,none⟩) cz 1 4) (l.length - 1) (cz - 1)) (l.drop 1) w:=wl.dropC zx rfl hcap (by omega)
 repeat (first|refine WO.does (zC rfl rfl (by omega)) ?_|refine Ta ?_|(refine Tm ?_;intro _)|refine WO.acallR (hc:=hF) (hR:=fun w1 hm=>⟨wN.mod hm.mod,wl.mod hm.mod⟩) (k:=?_)|refine Tc ?_|exact Tz)
 refine WO.acallX (hc:=hD) (hR:=fun w1 hm=>⟨wN.mod hm.mod,wl.mod hm.mod⟩) (k:=fun s1 hs1=>?_);clear hs1;generalize s1 0=gV;generalize s1 1=gY;generalize s1 2=gP;clear s1;simp only[List.cons_append,List.nil_append]
 repeat (first|refine WO.does (zK rfl rfl rfl) ?_|refine Ta ?_|(refine Tm ?_;intro _)|refine Tc ?_|exact Tz)
 refine WO.appNZ (z:=zb 0) (ys:=l.flatMap zb) (m:=l.length) rfl rfl rfl (RdF.rds wl rfl) hlL hl0 (by omega) (by omega) (by decide) (fun g9 c9 a2 a3=>?_)
 repeat (first|refine Ta ?_|(refine Tm ?_;intro _)|(refine WO.makes (zd (cs:=zb 0) rfl (by decide) rfl) ?_;intro _)|refine Tc ?_|exact Tz)
 refine WO.appKZ (z:=zb 0) (m:=1) (l:=l.length+1) rfl rfl rfl (xs:=l.flatMap zb) (ys:=zb 0) hlL a3 Pk.a (Rds.own (m:=4) Hs.here rfl) rfl rfl rfl (by omega) a2 (by omega) (by decide) (by decide) (fun g8 c8 a4 a5=>?_);rw[← hm0]
 repeat (first|refine Tw ?_|(refine Tm ?_;intro _)|exact Tz)
 refine WC.adraw 29 (k:=?_);refine DQ.acallM (hc:=hA) (hR:=fun w1 hm=>wH.mod hm.mod (by simp)) (k:=?_)
 iterate 4 (first|refine Da ?_|refine Dc ?_)
 refine DQ.acallM (hc:=hW1 gV gY gP) (hR:=fun w1 hm=>⟨wN.mod hm.mod,RdF.ownM (by have:=Hs.sg (g:=gV) (t:=24) (cs:=Vs.flatMap zb) hm;exact this) hVl,wm.mod hm.mod⟩) (k:=?_);(first|refine Da ?_|refine Dc ?_)
 iterate 2 (first|refine Da ?_|refine Dc ?_)
 refine DQ.acallM (hc:=hSN) (hR:=fun w1 hm=>⟨wm.mod hm.mod,wl.mod hm.mod⟩) (k:=?_);refine DQ.does (fun s _=>acP rfl rfl) Dp.const ?_
 iterate 5 (first|refine Da ?_|refine Dc ?_)
 refine DQ.acallM (hc:=hW2 gV gY gP g8 c8) (hR:=fun w1 hm=>⟨wN.mod hm.mod,RdF.ownM (by have:=Hs.sg (g:=gV) (t:=24) (cs:=Vs.flatMap zb) hm;exact this) hVl,RdF.ownO (Hs.sg hm) hm1⟩) (k:=?_)
 iterate 7 (first|refine Da ?_|refine Dc ?_)
 refine DQ.does (fun s _=>uG (l:=1) rfl rfl (by omega)) Dp.const ?_;refine DQ.acallM (hc:=hW3 gV gY gP (gy (some ⟨b,o,none⟩) cz 1 4) (cz - 1)) (hR:=fun w1 hm=>⟨wN.mod hm.mod,RdF.ownM (by have:=Hs.sg (g:=gV) (t:=24) (cs:=Vs.flatMap zb) hm;exact this) hVl,wD.mod hm.mod⟩) (k:=?_)
 iterate 3 (first|refine Da ?_|refine Dc ?_)
 refine DQ.anil (hL:=fun s=>rfl) ?_;intro sx _
 repeat (first|refine Tw ?_|(refine Tm ?_;intro _)|exact Tz)
 done
end
theorem lC {cs vs us:List Value} {a k j m:Nat} (h:cut cs a k=vs) (hv:cut vs j m=us) (hj:j+m≤k):cut cs (a+j) m=us:=by
 rw[← hv,← h];unfold cut;rw[List.drop_take,List.take_take,Nat.min_eq_left (by omega),List.drop_drop]
theorem jM {p q g x key:Nat} (h:aN p q g x key=false) (hq:1<q) (hm:yC p g=true):¬ x<q∨(x<q∧exN p g x≠key):=by
 rw[fX,hm] at h
 by_cases hx:x<q
 ·refine .inr ⟨hx,fun e=>?_⟩;rw[decide_eq_true e] at h;simp[zF,hq,hx] at h
 ·exact .inl hx
theorem iC {a q:Nat}:(ux a q<0)↔a<q:=by
 unfold ux;split
 ·rename_i h;subst h;simp
 ·split
  ·rename_i h;simp[h]
  ·rename_i h;simp[h]
section
variable (p q g h:Nat) (f sec:Int) (pt:Option Addr) (c:Nat) (N:List (Nat × Nat)) (ep d x:Nat) (pz:Option Addr) (cz:Nat) (l:List Nat)
theorem oW (hp:p<zc) (hq:q<zc) (hg:g<zc) (hh:h<zc) (hN:z8 N) (hl:∀ a∈l,a<zc)
  (hf1 : -9223372036854775808≤f) (hf2:f≤9223372036854775807) (hs1 : -9223372036854775808≤sec) (hs2:sec≤9223372036854775807) (hd:d<256) (hx:x<zc) (hep:ep<18446744073709551616)
  (hno:pJ p q g h f sec N l=true→u7 p q g h f sec N d l x=false) :
  Fn Tryz.prog 4 [stV p q g h f sec (.slice pt N.length c),gdV ep d (.slice pz l.length cz) x]
   (fun w=>(RdF zI (.slice pt N.length c) N w∧RdF zb (.slice pz l.length cz) l w)∧tI w) (Is (.bool true)):=by
 have hA:=uB;have hF:=oq p q g h f sec pt c N pz cz l hp hq hg hh hN hl hf1 hf2 hs1 hs2;cases e1:pJ p q g h f sec N l with
 | false =>
  rw[e1] at hF;refine Fn.enter Tryz.func4 rfl rfl rfl ?_;intro w hw;obtain⟨⟨wN,wl⟩,wH⟩:=hw
  repeat (first|refine Ta ?_|(refine Tm ?_;intro _)|refine WO.acallR (hc:=hF) (hR:=fun w1 hm=>⟨wN.mod hm.mod,wl.mod hm.mod⟩) (k:=?_)|refine WO.acallR (hc:=hA) (hR:=fun w1 hm=>wH.mod hm.mod (by simp)) (k:=?_)|refine Tc ?_|exact Tz)
  done
 | true =>
 have e3:=hno e1;rw[e1] at hF;obtain⟨hP,hS,hlen,hall,hNl,hln⟩:=rX e1;have hD:=m5 p q g h f sec pt c N ep d x pz cz l hp hq hg hh hN hNl hl hln hf1 hf2 hs1 hs2 hd hx e3;have hq1:=hP.1;obtain⟨hn1,hn7,hnq,hf0,hsec1,hfs,hmg,hmh⟩:=yM hS;have hC:=mc x q hx hq;have hPw:=uO p q g h g x hg hx hp;have hconv:IntKind.i64.wrap (d:Int)=(d:Int):=i64_in (by omega) (by omega);unfold u7 at e3;rw[hS,hall,decide_eq_true hlen] at e3;simp only[Bool.true_and,Bool.and_true] at e3
 by_cases n1:1≤d
 case neg =>
  refine Fn.enter Tryz.func4 rfl rfl rfl ?_;intro w hw;obtain⟨⟨wN,wl⟩,wH⟩:=hw
  repeat (first|refine WO.does (yk rfl rfl (by decide)) ?_|refine Ta ?_|(refine Tm ?_;intro _)|refine WO.acallR (hc:=hF) (hR:=fun w1 hm=>⟨wN.mod hm.mod,wl.mod hm.mod⟩) (k:=?_)|refine WO.acallR (hc:=hD) (hR:=fun w1 hm=>⟨wN.mod hm.mod,wl.mod hm.mod⟩) (k:=?_)|refine Tc ?_|exact Tz)
  refine WC.adraw 42 (k:=?_)
  iterate 42 (first|refine DQ.does (fun s _=>tu rfl rfl (by omega)) Dp.const ?_|refine Da ?_|refine Dc ?_)
  refine DQ.anil (k:=?_);intro sx _
  repeat (first|refine WO.does (zB rfl rfl rfl) ?_|refine Ta ?_|(refine Tm ?_;intro _)|refine Tc ?_|exact Tz)
  done
 by_cases n2:d≤N.length
 case neg =>
  refine Fn.enter Tryz.func4 rfl rfl rfl ?_;intro w hw;obtain⟨⟨wN,wl⟩,wH⟩:=hw
  repeat (first|refine WO.does (yk rfl rfl (by decide)) ?_|refine Ta ?_|(refine Tm ?_;intro _)|refine WO.acallR (hc:=hF) (hR:=fun w1 hm=>⟨wN.mod hm.mod,wl.mod hm.mod⟩) (k:=?_)|refine WO.acallR (hc:=hD) (hR:=fun w1 hm=>⟨wN.mod hm.mod,wl.mod hm.mod⟩) (k:=?_)|refine Tc ?_|exact Tz)
  refine WC.adraw 42 (k:=?_)
  iterate 42 (first|refine DQ.does (fun s _=>uI rfl rfl (by omega)) Dp.const ?_|refine DQ.does (fun s _=>zL rfl hconv) Dp.const ?_|refine DQ.does (fun s _=>oS rfl rfl (by omega)) Dp.const ?_|refine Da ?_|refine Dc ?_)
  refine DQ.anil (k:=?_);intro sx _
  repeat (first|refine WO.does (zB rfl rfl rfl) ?_|refine Ta ?_|(refine Tm ?_;intro _)|refine Tc ?_|exact Tz)
  done
 rw[show qh d N=true by unfold qh;simp[n1,n2]] at e3;simp only[Bool.true_and] at e3
 rcases jM e3 hq1 hmg with n3|⟨n3,n4⟩
 ·refine Fn.enter Tryz.func4 rfl rfl rfl ?_;intro w hw;obtain⟨⟨wN,wl⟩,wH⟩:=hw
  repeat (first|refine WO.does (yk rfl rfl (by decide)) ?_|refine Ta ?_|(refine Tm ?_;intro _)|refine WO.acallR (hc:=hF) (hR:=fun w1 hm=>⟨wN.mod hm.mod,wl.mod hm.mod⟩) (k:=?_)|refine WO.acallR (hc:=hD) (hR:=fun w1 hm=>⟨wN.mod hm.mod,wl.mod hm.mod⟩) (k:=?_)|refine Tc ?_|exact Tz)
  refine WC.adraw 42 (k:=?_)
  iterate 42 (first|refine DQ.does (fun s _=>uI rfl rfl (by omega)) Dp.const ?_|refine DQ.does (fun s _=>zL rfl hconv) Dp.const ?_|refine DQ.does (fun s _=>rI rfl rfl (by omega)) Dp.const ?_|refine DQ.does (fun s _=>yy rfl rfl (fun h=>n3 (iC.1 h))) Dp.const ?_|refine Da ?_|refine DQ.acall (hc:=hC) (k:=?_)|refine Dc ?_)
  refine DQ.anil (k:=?_);intro sx _
  repeat (first|refine WO.does (zB rfl rfl rfl) ?_|refine Ta ?_|(refine Tm ?_;intro _)|refine Tc ?_|exact Tz)
  done
 ·have hlt:d - 1<N.length:=by omega
  obtain⟨k,hk⟩ : ∃ k,N[d - 1]?=some k:=⟨_,List.getElem?_eq_getElem hlt⟩;rw[lv hk] at n4;have hkb:=hN k (List.mem_of_getElem? hk);have hxl:=rh (p:=p) (a:=g) (n:=x) hp;generalize exN p g x=ex at *;have hmax:(if (d:Int) > 1 then (d:Int) else 1)=(d:Int):=by split<;>omega
  have hsub:IntKind.u8.wrap ((d:Int) - 1)=((d - 1:Nat):Int):=qV (by omega) (by omega) (by omega);have hcx:cut (N.flatMap zI) ((d - 1)*8) 4=zb k.1:=by
   have:=lC (zq zE hk) (j:=0) (m:=4) (us:=zb k.1) rfl (by decide);simpa using this
  refine Fn.enter Tryz.func4 rfl rfl rfl ?_;intro w hw;obtain⟨⟨wN,wl⟩,wH⟩:=hw;obtain⟨b,o,rfl,_,hs⟩:=id wN |>.get hk
  repeat (first|refine WO.does (yk rfl rfl (by decide)) ?_|refine Ta ?_|(refine Tm ?_;intro _)|refine WO.acallR (hc:=hF) (hR:=fun w1 hm=>⟨wN.mod hm.mod,wl.mod hm.mod⟩) (k:=?_)|refine WO.acallR (hc:=hD) (hR:=fun w1 hm=>⟨wN.mod hm.mod,wl.mod hm.mod⟩) (k:=?_)|refine Tc ?_|exact Tz)
  refine WC.adraw 42 (k:=?_)
  iterate 42 (first|refine DQ.does (fun s _=>uI rfl rfl (by omega)) Dp.const ?_|refine DQ.does (fun s _=>zL rfl hconv) Dp.const ?_|refine DQ.does (fun s _=>rI rfl rfl (by omega)) Dp.const ?_|refine DQ.does (fun s _=>uD rfl rfl (iC.2 n3)) Dp.const ?_|refine DQ.does (fun s _=>lH rfl rfl hmax) Dp.const ?_|refine DQ.does (fun s _=>zM rfl rfl hsub) Dp.const ?_|refine DQ.does (fun s _=>za (o':=o+(d - 1)*8) rfl rfl hlt rfl) Dp.const ?_|refine DQ.does (fun s _=>zj (vs:=zb k.1) (hs:=hs) (hle:=Nat.le_add_right _ _) (hc:=by rw[Nat.add_sub_cancel_left];exact hcx)) Dp.const ?_|refine DQ.does (fun s _=>yZ rfl rfl hxl hkb.1 (decide_eq_false n4)) Dp.const ?_|refine Da ?_|refine DQ.acall (hc:=hC) (k:=?_)|refine DQ.acall (hc:=hPw) (k:=?_)|refine Dc ?_)
  refine DQ.anil (k:=?_);intro sx _
  repeat (first|refine WO.does (zB rfl rfl rfl) ?_|refine Ta ?_|(refine Tm ?_;intro _)|refine Tc ?_|exact Tz)
  done
theorem ej (hp:p<zc) (hq:q<zc) (hg:g<zc) (hh:h<zc) (hN:z8 N) (hl:∀ a∈l,a<zc)
  (hf1 : -9223372036854775808≤f) (hf2:f≤9223372036854775807) (hs1 : -9223372036854775808≤sec) (hs2:sec≤9223372036854775807) (hd:d<256) (hx:x<zc) (hep:ep<18446744073709551616)
  (e1:pJ p q g h f sec N l=true) (e3:u7 p q g h f sec N d l x=true) :
  Fn Tryz.prog 4 [stV p q g h f sec (.slice pt N.length c),gdV ep d (.slice pz l.length cz) x]
   (fun w=>(RdF zI (.slice pt N.length c) N w∧RdF zb (.slice pz l.length cz) l w)∧tI w) (Is (.bool true)):=by
 have hA:=uB;have hF:=oq p q g h f sec pt c N pz cz l hp hq hg hh hN hl hf1 hf2 hs1 hs2;rw[e1] at hF;obtain⟨hP,hS,hlen,hall,hNl,hln⟩:=rX e1;have hD:=ms p q g h f sec pt c N ep d x pz cz l hp hq hg hh hN hNl hl hln hf1 hf2 hs1 hs2 hd hx hep e3;obtain⟨hn1,hn7,hnq,hf0,hsec1,hfs,hmg,hmh⟩:=yM hS;have hq0:0<q:=by omega
 have hVok:=iU (q:=q) (g:=g) (l:=l) (n:=N.length) hp;have hYok:=an (q:=q) (l:=l) (N:=N) (n:=N.length) hp;have hPok:=aH (p:=p) (g:=g) (l:=l) (N:=N) (ep:=ep) (d:=d) (x:=x) (n:=N.length) hq hq0;have hGok:=ab (p:=p) (g:=g) (l:=l) (N:=N) (ep:=ep) (d:=d) (x:=x) (n:=N.length) hq hq0;have hVl:(dVs p q g l N.length).length=N.length:=by simp[dVs]
 have hYl:(dYs p q l N N.length).length=N.length:=by simp[dYs]
 have hPl:(dPs p q g l N ep d x N.length).length=N.length:=by simp[dPs]
 have hVg:∀ i,i<N.length→(dVs p q g l N.length)[i]?=some (exN p g (shN q l i)):=fun i hi=>tQ hi;have hYg:∀ i,i<N.length→(dYs p q l N N.length)[i]?=some (exN p (ky N i) (shN q l i)):=fun i hi=>tQ hi;have hpass:=oO (ep:=ep) hP e3;have hshow:=pA (m:=l) hP hS hlen hall;rw[decide_eq_true rfl] at hshow;have hC:=fun gV gY gP=>yJ p q g h f sec pt (some ⟨gV,0,none⟩) (some ⟨gY,0,none⟩) (some ⟨gP,0,none⟩) c N.length N.length N.length N ep d (dVs p q g l N.length) (dYs p q l N N.length) (dPs p q g l N ep d x N.length) (dSg p q g l N ep d x N.length).1 (dSg p q g l N ep d x N.length).2 hp hq hg hh hN hNl hf1 hf2 hs1 hs2 hd hVok hYok hPok (by omega) (by omega) (by omega) hGok.1 hGok.2;rw[hpass] at hC;have hW:=fun gV gY gP=>rK p q g h f sec pt (some ⟨gV,0,none⟩) (some ⟨gY,0,none⟩) (some ⟨gP,0,none⟩) c N.length N.length N.length N ep d (dVs p q g l N.length) (dYs p q l N N.length) (dPs p q g l N ep d x N.length) (dSg p q g l N ep d x N.length).1 (dSg p q g l N ep d x N.length).2 l pz cz hp hq hg hh hN hNl hf1 hf2 hs1 hs2 hVok (by omega) hl hln;rw[hshow] at hW;have hO:=gj p q g h l pz cz N.length hl (by omega) hq hall hn1 hn7 hnq;have hshl:(shL q l N.length).length=N.length:=pv;have hshg:∀ i,i<N.length→(shL q l N.length)[i]?=some (shN q l i):=fun i hi=>iy hi;have hshb:∀ i,shN q l i<zc:=fun i=>Nat.lt_trans (aw hq0) hq;generalize dSg p q g l N ep d x N.length=sg at *;generalize dVs p q g l N.length=Vs at *;generalize dYs p q l N N.length=Ys at *;generalize dPs p q g l N ep d x N.length=Ps at *;generalize shL q l N.length=Sh at *;have hSD:=fun gV gY gP gV2 gY2 gP2=>ol ep d sg.1 sg.2 (some ⟨gV,0,none⟩) (some ⟨gY,0,none⟩) (some ⟨gP,0,none⟩) (some ⟨gV2,0,none⟩) (some ⟨gY2,0,none⟩) (some ⟨gP2,0,none⟩) N.length N.length N.length N.length N.length N.length Vs Ys Ps (by omega) (by omega) (by omega);simp only[hVl,hYl,hPl,Option.getD] at hSD hC hW;clear e3 e1 hpass hshow;refine Fn.enter Tryz.func4 rfl rfl rfl ?_;intro w hw;obtain⟨⟨wN,wl⟩,wH⟩:=hw
 repeat (first|refine Ta ?_|(refine Tm ?_;intro _)|refine WO.acallR (hc:=hF) (hR:=fun w1 hm=>⟨wN.mod hm.mod,wl.mod hm.mod⟩) (k:=?_)|refine Tc ?_|exact Tz)
 refine WO.acallX (hc:=hD) (hR:=fun w1 hm=>⟨wN.mod hm.mod,wl.mod hm.mod⟩) (k:=fun s1 hs1=>?_);clear hs1;generalize s1 0=gV;generalize s1 1=gY;generalize s1 2=gP;clear s1;simp only[List.cons_append,List.nil_append]
 repeat (first|refine WO.does (zK rfl rfl rfl) ?_|refine Ta ?_|(refine Tm ?_;intro _)|refine Tc ?_|exact Tz)
 refine WO.acallX (hc:=hD) (hR:=fun w1 hm=>⟨wN.mod hm.mod,wl.mod hm.mod⟩) (k:=fun s1 hs1=>?_);clear hs1;generalize s1 0=hV;generalize s1 1=hY;generalize s1 2=hP;clear s1;simp only[List.cons_append,List.nil_append]
 repeat (first|refine Tw ?_|(refine Tm ?_;intro _)|exact Tz)
 refine WO.acallX (hc:=hO) (hR:=fun w1 hm=>wl.mod hm.mod) (k:=fun s1 hs1=>?_);clear hs1;generalize s1 0=gO;clear s1;simp only[List.cons_append,List.nil_append]
 repeat (first|refine WO.does (zK rfl rfl rfl) ?_|refine Ta ?_|(refine Tm ?_;intro _)|refine WO.acallR (hc:=hSD gV gY gP hV hY hP) (hR:=fun w1 hm=>⟨⟨RdF.ownM (Hs.sg hm) hVl,RdF.ownM (Hs.sg hm) hVl⟩,⟨RdF.ownM (Hs.sg hm) hYl,RdF.ownM (Hs.sg hm) hYl⟩,RdF.ownM (Hs.sg hm) hPl,RdF.ownM (Hs.sg hm) hPl⟩) (k:=?_)|refine Tc ?_|exact Tz)
 rename_i gS gZ gD g8
 refine WC.loopI (σ:=Nat) (fun i=>i≤N.length) (fun i=>[(2,Sx.pt gS),(3,Sx.pt gZ),(5,Sx.pt gD),(10,.slice (some ⟨gO,0,none⟩) N.length N.length),(12,.int .i64 (i:Int))])
  (fun _=>[⟨gD,44,dlC ep d (.slice (some ⟨gV,0,none⟩) N.length N.length) (.slice (some ⟨gY,0,none⟩) N.length N.length) (.slice (some ⟨gP,0,none⟩) N.length N.length) sg.1 sg.2⟩,⟨gV,24,Vs.flatMap zb⟩,⟨gY,24,Ys.flatMap zb⟩,⟨gP,77,Ps.flatMap pfC⟩,⟨gO,24,Sh.flatMap zb⟩,⟨gZ,38,gdC ep d (.slice pz l.length cz) x⟩,⟨gS,29,stC p q g h f sec (.slice pt N.length c)⟩]) (fun i=>N.length - i) 0 (fun i hi=>?_) (Nat.zero_le _)
 try dsimp only at hi ⊢
 by_cases hlt:i<N.length
 ·obtain⟨k,hk⟩ : ∃ k,N[i]?=some k:=⟨_,List.getElem?_eq_getElem hlt⟩;have hkb:=hN k (List.mem_of_getElem? hk);have e1:=hVg i hlt;have e2:=hYg i hlt;have e4:=hshg i hlt;rw[aE hk] at e2;have hb:=hshb i;have hPw1:=uO p q g h g (shN q l i) hg hb hp;have hPw2:=uO p q g h k.2 (shN q l i) hkb.2 hb hp;have hb1:=rh (p:=p) (a:=g) (n:=shN q l i) hp;have hb2:=rh (p:=p) (a:=k.2) (n:=shN q l i) hp;generalize exN p g (shN q l i)=v at *;generalize exN p k.2 (shN q l i)=y at *;generalize shN q l i=si at *;have c1:cut (Vs.flatMap zb) (0+i*4) 4=zb v:=by rw[Nat.zero_add];exact zq zx e1
  have c2:cut (Ys.flatMap zb) (0+i*4) 4=zb y:=by rw[Nat.zero_add];exact zq zx e2
  have c4:cut (Sh.flatMap zb) (0+i*4) 4=zb si:=by rw[Nat.zero_add];exact zq zx e4
  have hcx:cut (N.flatMap zI) (i*8+4) 4=zb k.2:=lC (zq zE hk) (j:=4) (m:=4) (us:=zb k.2) rfl (by decide);have hadd2:IntKind.i64.wrap ((i:Int)+1)=((i+1:Nat):Int):=zm (by omega) (by omega) (by omega);obtain⟨b,o,rfl,_,hs⟩:=id wN |>.get hk
  repeat (first|refine Tw ?_|(refine Tm ?_;intro _)|exact Tz)
  refine WC.dT rfl (by omega) ?_
  repeat (first|refine Tw ?_|(refine Tm ?_;intro _)|exact Tz)
  refine WC.adraw 37 (k:=?_)
  iterate 3 (first|refine Da ?_|refine Dc ?_)
  refine DQ.does (fun s _=>za (o':=0+i*4) rfl rfl hlt rfl) Dp.const ?_;refine DQ.does (fun s _=>zy (vs:=zb v) (hc:=c1)) Dp.const ?_
  iterate 7 (first|refine Da ?_|refine Dc ?_)
  refine DQ.does (fun s _=>za (o':=0+i*4) rfl rfl hlt rfl) Dp.const ?_;refine DQ.does (fun s _=>zy (vs:=zb si) (hc:=c4)) Dp.const ?_;refine DQ.acall (hc:=hPw1) (k:=?_);refine DQ.does (fun s _=>uP rfl rfl hb1 hb1 (decide_eq_false (fun h=>h rfl))) Dp.const ?_
  iterate 4 (first|refine Da ?_|refine Dc ?_)
  refine DQ.does (fun s _=>za (o':=0+i*4) rfl rfl hlt rfl) Dp.const ?_;refine DQ.does (fun s _=>zy (vs:=zb y) (hc:=c2)) Dp.const ?_
  iterate 5 (first|refine Da ?_|refine Dc ?_)
  refine DQ.does (fun s _=>za (o':=o+i*8) rfl rfl hlt rfl) Dp.const ?_;(first|refine Da ?_|refine Dc ?_);refine DQ.does (fun s _=>zj (vs:=zb k.2) (hs:=hs) (hle:=by omega) (hc:=by rw[show o+i*8+4 - o=i*8+4 by omega];exact hcx)) Dp.const ?_
  iterate 2 (first|refine Da ?_|refine Dc ?_)
  refine DQ.does (fun s _=>za (o':=0+i*4) rfl rfl hlt rfl) Dp.const ?_;refine DQ.does (fun s _=>zy (vs:=zb si) (hc:=c4)) Dp.const ?_;refine DQ.acall (hc:=hPw2) (k:=?_);refine DQ.does (fun s _=>uP rfl rfl hb2 hb2 (decide_eq_false (fun h=>h rfl))) Dp.const ?_;(first|refine Da ?_|refine Dc ?_);refine DQ.anil (k:=?_);intro sx _
  repeat (first|refine Ta ?_|(refine Tm ?_;intro _)|refine WO.does (zi rfl rfl hadd2) ?_|refine Tc ?_|exact Tz)
  exact WX.metI (i+1) (hs:=⟨by show i+1≤N.length;omega,by show N.length - (i+1)<N.length - i;omega⟩)
 ·have hi2:i=N.length:=by omega
  subst hi2
  repeat (first|refine Tw ?_|(refine Tm ?_;intro _)|exact Tz)
  refine WC.dF rfl (by omega) ?_
  repeat (first|refine Ta ?_|(refine Tm ?_;intro _)|refine WO.acallR (hc:=hA) (hR:=fun w1 hm=>wH.mod hm.mod (by simp)) (k:=?_)|refine Tc ?_|exact Tz)
  refine WO.acallR (hc:=hC gV gY gP) (hR:=fun w1 hm=>⟨⟨wN.mod hm.mod,RdF.ownM (Hs.sg hm) hVl,RdF.ownM (Hs.sg hm) hYl,RdF.ownM (Hs.sg hm) hPl⟩,wH.mod hm.mod (by simp)⟩) (k:=?_)
  repeat (first|refine WO.does (zB rfl rfl rfl) ?_|refine Ta ?_|(refine Tm ?_;intro _)|refine Tc ?_|exact Tz)
  refine WO.acallR (hc:=hW gV gY gP) (hR:=fun w1 hm=>⟨wN.mod hm.mod,RdF.ownM (Hs.sg hm) hVl,wl.mod hm.mod⟩) (k:=?_)
  repeat (first|refine Tw ?_|(refine Tm ?_;intro _)|exact Tz)
  done
theorem sM (hp:p<zc) (hq:q<zc) (hg:g<zc) (hh:h<zc) (hN:z8 N) (hl:∀ a∈l,a<zc)
  (hf1 : -9223372036854775808≤f) (hf2:f≤9223372036854775807) (hs1 : -9223372036854775808≤sec) (hs2:sec≤9223372036854775807) (hd:d<256) (hx:x<zc) (hep:ep<18446744073709551616) :
  Fn Tryz.prog 4 [stV p q g h f sec (.slice pt N.length c),gdV ep d (.slice pz l.length cz) x]
   (fun w=>(RdF zI (.slice pt N.length c) N w∧RdF zb (.slice pz l.length cz) l w)∧tI w) (Is (.bool true)):=by
 cases e1:pJ p q g h f sec N l with
 | false=>exact oW p q g h f sec pt c N ep d x pz cz l hp hq hg hh hN hl hf1 hf2 hs1 hs2 hd hx hep (fun h=>by rw[e1] at h;cases h)
 | true =>
  cases e3:u7 p q g h f sec N d l x with
  | false=>exact oW p q g h f sec pt c N ep d x pz cz l hp hq hg hh hN hl hf1 hf2 hs1 hs2 hd hx hep (fun _=>e3)
  | true=>exact ej p q g h f sec pt c N ep d x pz cz l hp hq hg hh hN hl hf1 hf2 hs1 hs2 hd hx hep e1 e3
end
end Sx
end
section
open Go Go.RowKit Go.BigFrame Go.WideShapes
namespace Sx
theorem yX (cs:List Value) (a b c:Nat):cut cs a b++cut cs (a+b) c=cut cs a (b+c):=by
 unfold cut;rw[List.take_add,List.drop_drop]
section
variable {H:Type} {enc:TypeId × Value→H} {P:Program} {w:World} {base:Nat} {spare:Nat→Bool} {held:Bool} {fuel:Nat} {cs:List Value} {x:DataW H × List MemPlace}
theorem tJ {t:TypeId} {fs:Array Field} {m:Nat} (ht:P.underlying t=some (.struct fs)) (hm:P.cellsOf t=m) (h:DataW.trod enc P w base spare held fuel t cs=some x):cs.length=m:=by
 obtain⟨xs,n,_,_,hl,_⟩:=DataW.trod_struct ht h;rw[hl,hm]
theorem ym {t:TypeId} {fs:Array Field} (ht:P.underlying t=some (.struct fs)) (h:DataW.trod enc P w base spare held fuel t cs=some x) {i off ty sz:Nat} {f:Field} (hf:fs[i]?=some f) (ho:f.offset=off) (hty:f.type=ty) (hs:P.cellsOf ty=sz) :
  ∃ n y,DataW.trod enc P w base spare held n ty (cut cs off sz)=some y:=by
 obtain⟨xs,n,_,_,_,hlen,hp⟩:=DataW.trod_struct ht h;have h1:=hp i f hf;subst ho hty hs;have hi:i<xs.length:=by
  rw[hlen]
  rcases Nat.lt_or_ge i fs.size with h2|h2
  ·exact h2
  ·rw[Array.getElem?_eq_none h2] at hf;cases hf
 rw[List.getElem?_eq_getElem hi] at h1;exact⟨n,_,h1⟩
theorem uK {t:TypeId} (ht:P.underlying t=some (.int .u64)) (h:DataW.trod enc P w base spare held fuel t cs=some x):∃ n:Nat,n<18446744073709551616∧cs=[.int .u64 (n:Int)]:=by
 obtain⟨n,rfl,_,hw⟩:=DataW.trod_int ht h;simp only[Lit.wf,IntKind.min,IntKind.max,IntKind.signed,IntKind.bits,Bool.and_eq_true,decide_eq_true_eq] at hw;have h1:(0:Int)≤n:=by simpa using hw.1
 have h2:n≤18446744073709551615:=by simpa using hw.2
 exact⟨n.toNat,by omega,by rw[Int.toNat_of_nonneg h1]⟩
theorem d7 {t:TypeId} (ht:P.underlying t=some (.int .u8)) (h:DataW.trod enc P w base spare held fuel t cs=some x):∃ n:Nat,n<256∧cs=[.int .u8 (n:Int)]:=by
 obtain⟨n,rfl,_,hw⟩:=DataW.trod_int ht h;simp only[Lit.wf,IntKind.min,IntKind.max,IntKind.signed,IntKind.bits,Bool.and_eq_true,decide_eq_true_eq] at hw;have h1:(0:Int)≤n:=by simpa using hw.1
 have h2:n≤255:=by simpa using hw.2
 exact⟨n.toNat,by omega,by rw[Int.toNat_of_nonneg h1]⟩
theorem oX {t:TypeId} (ht:P.underlying t=some (.int .i64)) (h:DataW.trod enc P w base spare held fuel t cs=some x):∃ n:Int,-9223372036854775808≤n∧n≤9223372036854775807∧cs=[.int .i64 n]:=by
 obtain⟨n,rfl,_,hw⟩:=DataW.trod_int ht h;simp only[Lit.wf,IntKind.min,IntKind.max,IntKind.signed,IntKind.bits,Bool.and_eq_true,decide_eq_true_eq] at hw;exact⟨n,by simpa using hw.1,by simpa using hw.2,rfl⟩
theorem iO {t e:TypeId} (ht:P.underlying t=some (.array 4 e)) (he:P.underlying e=some (.int .u64)) (h4:P.cellsOf t=4) (h1:P.cellsOf e=1) (h:DataW.trod enc P w base spare held fuel t cs=some x):∃ n:Nat,n<zc∧cs=zb n:=by
 obtain⟨xs,m,_,_,hl,hlen,hp⟩:=DataW.trod_array ht h;rw[h4] at hl
 match cs,hl with
 | [c0,c1,c2,c3],_ =>
  have k:∀ (i:Nat),i<4→∃ y,DataW.trod enc P w base spare held m e (([c0,c1,c2,c3].drop (i*P.cellsOf e)).take (P.cellsOf e))=some y:=fun i hi=>by
   have h2:=hp i hi;rw[List.getElem?_eq_getElem (by omega)] at h2;exact⟨_,h2⟩
  rw[h1] at k;obtain⟨y0,k0⟩:=k 0 (by omega);obtain⟨y1,k1⟩:=k 1 (by omega);obtain⟨y2,k2⟩:=k 2 (by omega);obtain⟨y3,k3⟩:=k 3 (by omega);obtain⟨a0,b0,e0⟩:=uK he k0;obtain⟨a1,b1,e1⟩:=uK he k1;obtain⟨a2,b2,e2⟩:=uK he k2;obtain⟨a3,b3,e3⟩:=uK he k3;simp at e0 e1 e2 e3;subst e0 e1 e2 e3;obtain⟨w0,w1,w2,w3⟩:=iz b0 b1 b2 b3;exact⟨uZ a0 a1 a2 a3,mD b0 b1 b2 b3,by rw[zb,w0,w1,w2,w3]⟩
theorem Seg.app {b o:Nat} {A B:List Value} (hA:Seg w b o A) (hB:Seg w b (o+A.length) B):Seg w b o (A++B):=by
 intro i v hv
 rcases Nat.lt_or_ge i A.length with h|h
 ·rw[List.getElem?_append_left h] at hv;exact hA i v hv
 ·rw[List.getElem?_append_right h] at hv;have:=hB _ v hv;rwa [show o+A.length+(i - A.length)=o+i by omega] at this
theorem seg_of_cells {b o n:Nat} {l:List Value} (h:w.cells? base ⟨b,o,none⟩ n=some l):Seg w b o l:=by
 obtain⟨_,hl,hc⟩:=World.cells?_some h;intro i v hv;have hi:i<n:=by
  rw[← hl]
  rcases Nat.lt_or_ge i l.length with h1|h1
  ·exact h1
  ·rw[List.getElem?_eq_none h1] at hv;cases hv
 have:=hc i hi;rw[vt] at this;rw[this,hv]
theorem rv {α:Type} {f:α→List Value} {ok:α→Prop} {t e:TypeId} {k:Nat} (ht:P.underlying t=some (.slice e)) (hk:P.cellsOf e=k) (hf:∀ a,(f a).length=k)
  (hE:∀ (fuel:Nat) (cs:List Value) (x:DataW H × List MemPlace),DataW.trod enc P w base spare held fuel e cs=some x→∃ a,ok a∧cs=f a)
  (h:DataW.trod enc P w base spare held fuel t cs=some x) (hs:∀ a l c,cs=[.slice (some a) l c]→a.spot=none) :
  ∃ pt xs c,cs=[.slice pt xs.length c]∧(∀ a∈xs,ok a)∧RdF f (.slice pt xs.length c) xs w:=by
 rcases DataW.trod_slice ht h with ⟨rfl,_⟩|⟨a,len,cap,elems,rest,n,_,rfl,_,_,_,_,hlen,hel,_⟩
 ·exact⟨none,[],0,rfl,by simp,none,0,rfl,.inl ⟨rfl,rfl⟩⟩
 have ha:=hs a len cap rfl;obtain⟨b,o,sp⟩:=a;simp only at ha;subst ha;have key:∀ m,m≤len→∃ xs:List α,xs.length=m∧(∀ a∈xs,ok a)∧Seg w b o (xs.flatMap f):=by
  intro m
  induction m with
  | zero=>exact fun _=>⟨[],rfl,by simp,fun i v hv=>by simp at hv⟩
  | succ m ih =>
   intro hm;obtain⟨xs,h1,h2,h3⟩:=ih (by omega);have h4:=hel m (by omega);rw[List.getElem?_eq_getElem (by omega),hk,vt] at h4;cases h5:w.cells? base ⟨b,o+m*k,none⟩ k with
   | none=>rw[h5] at h4;cases h4
   | some l =>
    rw[h5] at h4;obtain⟨y,hy,rfl⟩:=hE n l _ h4;refine⟨xs++[y],by simp[h1],fun a ha=>?_,?_⟩
    ·rcases List.mem_append.1 ha with ha|ha
     ·exact h2 a ha
     ·obtain rfl:=List.mem_singleton.1 ha;exact hy
    ·rw[List.flatMap_append];refine h3.app ?_;rw[zt hf,h1];simpa using seg_of_cells h5
 obtain⟨xs,rfl,h2,h3⟩:=key len (Nat.le_refl _);exact⟨some ⟨b,o,none⟩,xs,cap,rfl,h2,_,cap,rfl,.inr ⟨b,o,rfl,h3⟩⟩
theorem vz {r:Reach} {b0:Nat} {t u e:TypeId} {cs:Array Value} {ts:List TypeId} {fs:Array Field} {i:Nat} (ht:P.underlying t=some (.struct fs)) (hts:P.cellTypes P.depth t=some ts) (hn:ts.length=P.cellsOf t)
  (hv:Value.okWide P w r b0 t (.agg cs)) (hu:ts[i]?=some u) (hue:P.underlying u=some (.slice e)):∀ a l c,cs[i]?=some (.slice (some a) l c)→a.spot=none:=by
 intro a l c hc;unfold Value.okWide at hv;rw[ht] at hv;obtain⟨cs',h1,h2,ts',h3,_,h4⟩:=hv;cases h1;rw[hts] at h3;cases h3;obtain⟨u',h5,h6⟩:=h4 i _ hc;have hi:i<ts.length:=by
  rcases Nat.lt_or_ge i ts.length with h|h
  ·exact h
  ·rw[List.getElem?_eq_none h] at hu;cases hu
 rw[Nat.mod_eq_of_lt hi,hu] at h5;cases h5;unfold Cell.okWide Cell.ok at h6;rw[hue] at h6;exact h6.2.2.2.1
theorem vS {r:Reach} {b0:Nat} {t u e:TypeId} {cs:Array Value} {ts:List TypeId} {fs:Array Field} {i:Nat} (ht:P.underlying t=some (.struct fs)) (hts:P.cellTypes P.depth t=some ts) (hn:ts.length=P.cellsOf t)
  (hv:Value.okWide P w r b0 t (.agg cs)) (hu:ts[i]?=some u) (hue:P.underlying u=some (.slice e)) {p:Option Addr} {l c:Nat} (hc:cs[i]?=some (.slice p l c)):l≤c:=by
 unfold Value.okWide at hv;rw[ht] at hv;obtain⟨cs',h1,h2,ts',h3,_,h4⟩:=hv;cases h1;rw[hts] at h3;cases h3;obtain⟨u',h5,h6⟩:=h4 i _ hc;have hi:i<ts.length:=by
  rcases Nat.lt_or_ge i ts.length with h|h
  ·exact h
  ·rw[List.getElem?_eq_none h] at hu;cases hu
 rw[Nat.mod_eq_of_lt hi,hu] at h5;cases h5;unfold Cell.okWide Cell.ok at h6;rw[hue] at h6;cases p with
 | none=>cases l<;>cases c<;>simp_all
 | some a=>exact h6.1
theorem fF {r:Reach} {b0:Nat} {t:TypeId} {v:Value} (ht:P.underlying t=some (.int .u8)) (h:Value.okWide P w r b0 t v):∃ n:Nat,n<256∧v=.int .u8 (n:Int):=by
 obtain⟨n,rfl⟩:=okWide_int ht h;simp only[Value.okWide,ht,Cell.okWide,Cell.ok] at h;obtain⟨_,h1,h2⟩:=h;have e1:IntKind.u8.min=0:=rfl;have e2:IntKind.u8.max=255:=rfl;rw[e1] at h1;rw[e2] at h2;exact⟨n.toNat,by omega,by rw[Int.toNat_of_nonneg h1]⟩
theorem j2 {r:Reach} {b0:Nat} {t e:TypeId} {v:Value} (ht:P.underlying t=some (.slice e)) (h:Value.okWide P w r b0 t v):∃ a l c,v=.slice a l c∧∀ b,a=some b→b.spot=none:=by
 obtain⟨a,l,c,rfl⟩:=okWide_slice ht h;refine⟨a,l,c,rfl,?_⟩;rintro b rfl;simp only[Value.okWide,ht,Cell.okWide,Cell.ok] at h;exact h.2.2.2.1
end
section
variable {H:Type} {enc:TypeId × Value→H} {w:World} {base:Nat} {spare:Nat→Bool} {held:Bool} {fuel:Nat} {cs:List Value} {x:DataW H × List MemPlace}
theorem ab5:Tryz.prog.cellsOf 22=1:=by kernel_rfl
theorem adC:Tryz.prog.cellsOf 5=1:=by kernel_rfl
theorem acd:Tryz.prog.cellsOf 3=1:=by kernel_rfl
theorem qy:Tryz.prog.cellsOf 24=4:=by kernel_rfl
theorem gq:Tryz.prog.cellsOf 26=16:=by kernel_rfl
theorem abO:Tryz.prog.cellsOf 34=8:=by kernel_rfl
theorem abR:Tryz.prog.cellsOf 27=1:=by kernel_rfl
theorem ab8:Tryz.prog.cellsOf 36=1:=by kernel_rfl
theorem vu:Tryz.prog.cellsOf 29=19:=by kernel_rfl
theorem pX (h:DataW.trod enc Tryz.prog w base spare held fuel 24 cs=some x):∃ n:Nat,n<zc∧cs=zb n:=iO Tryz.underlying24 Tryz.underlying22 qy ab5 h
theorem adj (h:DataW.trod enc Tryz.prog w base spare held fuel 34 cs=some x):∃ k:Nat × Nat,(k.1<zc∧k.2<zc)∧cs=zI k:=by
 have hl:=tJ Tryz.underlying34 abO h;obtain⟨_,_,h0⟩:=ym Tryz.underlying34 h (i:=0) (off:=0) (ty:=24) rfl rfl rfl qy;obtain⟨_,_,h1⟩:=ym Tryz.underlying34 h (i:=1) (off:=4) (ty:=24) rfl rfl rfl qy;obtain⟨a,ha,e0⟩:=pX h0;obtain⟨b,hb,e1⟩:=pX h1;refine⟨(a,b),⟨ha,hb⟩,?_⟩;rw[← yd hl,← yX cs 0 4 4,e0,e1];rfl
theorem aat (h:DataW.trod enc Tryz.prog w base spare held fuel 26 cs=some x):∃ p q g u,p<zc∧q<zc∧g<zc∧u<zc∧cs=zJ p q g u:=by
 have hl:=tJ Tryz.underlying26 gq h;obtain⟨_,_,h0⟩:=ym Tryz.underlying26 h (i:=0) (off:=0) (ty:=24) rfl rfl rfl qy;obtain⟨_,_,h1⟩:=ym Tryz.underlying26 h (i:=1) (off:=4) (ty:=24) rfl rfl rfl qy;obtain⟨_,_,h2⟩:=ym Tryz.underlying26 h (i:=2) (off:=8) (ty:=24) rfl rfl rfl qy;obtain⟨_,_,h3⟩:=ym Tryz.underlying26 h (i:=3) (off:=12) (ty:=24) rfl rfl rfl qy;obtain⟨a,ha,e0⟩:=pX h0;obtain⟨b,hb,e1⟩:=pX h1;obtain⟨c,hc,e2⟩:=pX h2;obtain⟨d,hd,e3⟩:=pX h3;refine⟨a,b,c,d,ha,hb,hc,hd,?_⟩;rw[← yd hl,← yX cs 0 4 12,← yX cs (0+4) 4 8,← yX cs (0+4+4) 4 4,e0,e1,e2,e3];rfl
theorem eu {i:Nat} {v:Value} (h:cut cs i 1=[v]):cs[i]?=some v:=by
 have:=tg (j:=0) (v:=v) h rfl;rwa [Nat.add_zero] at this
theorem rc (h:DataW.trod enc Tryz.prog w base spare held fuel 29 cs=some x) (hs:∀ a l c,cs[18]?=some (.slice (some a) l c)→a.spot=none) :
  ∃ p q g u f sec pt N c,p<zc∧q<zc∧g<zc∧u<zc∧(-9223372036854775808≤f∧f≤9223372036854775807∧-9223372036854775808≤sec∧sec≤9223372036854775807)∧z8 N∧cs=stC p q g u f sec (.slice pt N.length c)∧RdF zI (.slice pt N.length c) N w:=by
 have hl:=tJ Tryz.underlying29 vu h;obtain⟨_,_,h0⟩:=ym Tryz.underlying29 h (i:=0) (off:=0) (ty:=26) rfl rfl rfl gq;obtain⟨_,_,h1⟩:=ym Tryz.underlying29 h (i:=1) (off:=16) (ty:=3) rfl rfl rfl acd;obtain⟨_,_,h2⟩:=ym Tryz.underlying29 h (i:=2) (off:=17) (ty:=3) rfl rfl rfl acd;obtain⟨_,_,h3⟩:=ym Tryz.underlying29 h (i:=3) (off:=18) (ty:=27) rfl rfl rfl abR;obtain⟨p,q,g,u,hp,hq,hg,hu,e0⟩:=aat h0;obtain⟨f,hf1,hf2,e1⟩:=oX Tryz.underlying3 h1;obtain⟨sec,hs1,hs2,e2⟩:=oX Tryz.underlying3 h2;obtain⟨pt,N,c,e3,hN,hR⟩:=rv (f:=zI) (ok:=fun k=>k.1<zc∧k.2<zc) Tryz.underlying27 abO zE (fun _ _ _ h=>adj h) h3 (fun a l c e=>hs a l c (eu e));refine⟨p,q,g,u,f,sec,pt,N,c,hp,hq,hg,hu,⟨hf1,hf2,hs1,hs2⟩,hN,?_,hR⟩;rw[← yd hl,← yX cs 0 16 3,← yX cs (0+16) 1 2,← yX cs (0+16+1) 1 1,e0,e1,e2,e3];rfl
theorem acG (h:DataW.trod enc Tryz.prog w base spare held fuel 36 cs=some x) (hs:∀ a l c,cs=[.slice (some a) l c]→a.spot=none) :
  ∃ pt l c,cs=[.slice pt (List.length l) c]∧(∀ y∈l,y<zc)∧RdF zb (.slice pt l.length c) l w :=
 rv (f:=zb) (ok:=fun y=>y<zc) Tryz.underlying36 qy zx (fun _ _ _ h=>pX h) h hs
theorem mb:Tryz.prog.cellsOf 38=7:=by kernel_rfl
theorem az (h:DataW.trod enc Tryz.prog w base spare held fuel 38 cs=some x) (hs:∀ a l c,cs[2]?=some (.slice (some a) l c)→a.spot=none) :
  ∃ ep d pl l cl u,ep<18446744073709551616∧d<256∧(∀ y∈l,y<zc)∧u<zc∧cs=gdC ep d (.slice pl (List.length l) cl) u∧RdF zb (.slice pl l.length cl) l w:=by
 have hl:=tJ Tryz.underlying38 mb h;obtain⟨_,_,h0⟩:=ym Tryz.underlying38 h (i:=0) (off:=0) (ty:=22) rfl rfl rfl ab5;obtain⟨_,_,h1⟩:=ym Tryz.underlying38 h (i:=1) (off:=1) (ty:=5) rfl rfl rfl adC;obtain⟨_,_,h2⟩:=ym Tryz.underlying38 h (i:=2) (off:=2) (ty:=36) rfl rfl rfl ab8;obtain⟨_,_,h3⟩:=ym Tryz.underlying38 h (i:=3) (off:=3) (ty:=24) rfl rfl rfl qy;obtain⟨ep,hep,e0⟩:=uK Tryz.underlying22 h0;obtain⟨d,hd,e1⟩:=d7 Tryz.underlying5 h1;obtain⟨pl,l,cl,e2,hlb,hL⟩:=rv (f:=zb) (ok:=fun y=>y<zc) Tryz.underlying36 qy zx (fun _ _ _ h=>pX h) h2 (fun a l c e=>hs a l c (eu e));obtain⟨u,hu,e3⟩:=pX h3;refine⟨ep,d,pl,l,cl,u,hep,hd,hlb,hu,?_,hL⟩;rw[← yd hl,← yX cs 0 1 6,← yX cs (0+1) 1 5,← yX cs (0+1+1) 1 4,e0,e1,e2,e3];rfl
end
end Sx
end
end Go.Proofs.YtegjemedanccoaaGreatDoor
namespace Go.Proofs.YtegjemedanccoaaGreatDoor.Ou
section
open Go Go.RowKit Go.BigFrame Go.ChangeShapes Go.WideShapes Go.ChangeAt Sx
theorem own:ownKnob Tryz.prog.godebug=none:=by kernel_rfl
theorem yu:Tryz.prog.cellTypes Tryz.prog.depth 29=some (List.replicate 16 22++[3,3,27]):=by kernel_rfl
theorem abk:laidOutB Tryz.prog=true:=by kernel_rfl
theorem te:Tryz.prog.readableRec 29=true:=by kernel_rfl
theorem nE:Tryz.prog.readableRec 38=true:=by kernel_rfl
theorem vY:Tryz.prog.cellTypes Tryz.prog.depth 38=some ([22,5,36]++List.replicate 4 22):=by kernel_rfl
theorem abV:Tryz.prog.readableRec 5=true:=by kernel_rfl
theorem bz:Tryz.prog.readableRec 36=true:=by kernel_rfl
abbrev sQ:List (String × DataW Unit):=[("errors.errorType",Rows.laid_errors_errorType)]
theorem et:Tryz.prog.globalNamed "errors.errorType"=some 0:=by kernel_rfl
theorem rt:(Tryz.prog.cutTypes.find? (·.1 == "internal/reflectlite.rtype")).map (·.2)=some 215:=by kernel_rfl
theorem aca:((List.range Tryz.prog.types.size).filter fun t=>Tryz.prog.rowNamed t [101,114,114,111,114])=[97]:=by kernel_rfl
theorem vN {W:World} (h:laidMetH Tryz.prog sQ W):tI W:=by
 have h' : laidMet Tryz.prog [] W∧handlesMet Tryz.prog sQ W:=h;obtain⟨name,u,ty,e1,e2,e3,e4,e5⟩:=h'.2 _ (List.mem_singleton.2 rfl);have en:name=[101,114,114,111,114]:=(Option.some.inj e1).symm;subst en;obtain rfl:=Option.some.inj (rt.symm.trans e2);have hm:ty∈(List.range Tryz.prog.types.size).filter fun t=>Tryz.prog.rowNamed t [101,114,114,111,114]:=List.mem_filter.2 ⟨List.mem_range.2 e3,e4⟩;rw[aca] at hm;obtain rfl:=List.mem_singleton.1 hm;have hh:typeHandle Tryz.prog 97=.pointer (some ⟨3,97,none⟩):=by kernel_rfl
 rw[hh] at e5;have hc:W.cell? ⟨0,0,none⟩=some aai:=by simpa using World.var?_cell et e5 0
 intro i v hv
 match i,hv with
 | 0,hv=>rw[show v=aai from (Option.some.inj hv).symm];exact hc
set_option maxRecDepth 100000 in
theorem ou (os:Os) (args:Array Value):laidMetH Tryz.prog sQ ((World.doorLaid Tryz.prog 24 os).forCall (fun _ _=>0) ⟨#[],args,[]⟩).memory :=
 laidMetH_of_parts (laidMet_nil _ _) (by kernel_rfl)
end
end Go.Proofs.YtegjemedanccoaaGreatDoor.Ou
