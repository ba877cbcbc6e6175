/- Part 52 of the proof. -/
import Derived.Test.YteibfbjpkjkejaaGreatDoorS50
set_option linter.unusedSimpArgs false
set_option linter.unusedVariables false
set_option maxHeartbeats 8000000
namespace Go.Proofs.YteibfbjpkjkejaaGreatDoor
section
open Go Go.RowKit Go.BigFrame
namespace Sx
section
variable {P:Program} {w0:World} {gs:List Nat} {n:Nat} {ops:List Oper} {Q:Exit→Act→World→Prop} {main:List Nat} {T K0 K:List (Nat × Value)} {Lc L:List Ent} {D:List Nat}
theorem WT.finA {m:Nat} (fuel:Nat) (hc:eA ops main (T.map Prod.fst) n=true) (hm:main.contains m=true) (hd:main.all (fun i=>D.contains i)=true) (hall:(T.map Prod.fst).all (fun i=>(anc ops fuel m).contains i)=true)
  (k:WX w0 gs n .normal Q K L):WT P w0 gs n ops Q main T D K L:=by
 have C:=eA.spec hc;have key:∀ (f:Nat) (S:List Bool) (a:Act) (w:World),Stz w0 gs n ops main T D K L f S a w→wpAny P .any ops.toArray Q f S.toArray a w:=by
  intro f S a w hs;have hr:Region.ready .any ops.toArray S.toArray=[]:=by
   rw[List.eq_nil_iff_forall_not_mem];intro i hi;obtain⟨hil,hiS,hid⟩:=yu hs.len hi;cases hmi:main.contains i with
   | true =>
    have:=(hs.mn i hmi).2 (List.all_eq_true.1 hd i (by simpa using hmi));rw[hiS] at this;cases this
   | false =>
    have hits:i∈T.map Prod.fst:=by
     have:=C.one i hil;rw[hmi] at this;cases h:(T.map Prod.fst).contains i with
     | true=>simpa using h
     | false=>exact absurd h.symm this
    have hmS:=(hs.mn m hm).2 (List.all_eq_true.1 hd m (by simpa using hm));have hin:i∈anc ops fuel m:=by simpa using List.all_eq_true.1 hall i hits
    have:=dL hs.cl fuel m hmS i hin;rw[hiS] at this;cases this
  cases f with
  | zero=>exact⟨hr,k a w hs.df hs.sz hs.kn hs.me⟩
  | succ f=>exact⟨fun _=>k a w hs.df hs.sz hs.kn hs.me,fun i hi=>by rw[hr] at hi;cases hi⟩
 exact key
end
attribute [local irreducible] wd DQ DQS WO WC WX WT vT
abbrev seC (cs:List Value) (ls:Value) (H:List Nat) (at' : Nat):List Value:=cs++(ls::(byC H++[.int .u8 (at' : Int)]))
structure Sb where
 i:Nat
 lg:Nat→Nat
 lc:Nat→Nat
 D:List (Dd × Dk)
structure Sr where
 j:Nat
 g:Nat
 c:Nat
section
variable (p q g h0 a:Nat) (f sec:Int) (pk:Option Addr) (ck:Nat) (ks:List (Nat × Nat)) (pl:Option Addr) (cl:Nat) (l:List Dq) (H0:List Nat) (at' : Nat)
theorem abt (hp:p<zd) (hq:q<zd) (hg:g<zd) (hh0:h0<zd) (ha:a<zd) (hks:yz ks)
  (hf1 : -9223372036854775808≤f) (hf2:f≤9223372036854775807) (hs1 : -9223372036854775808≤sec) (hs2:sec≤9223372036854775807) (hHb:∀ b∈H0,b<256) (hHl:H0.length=32) (hat:at' < 256) :
  Fn Tryz.prog 5 [.agg (seC (csC p q g h0 a f sec (.slice pk ks.length ck)) (.slice pl l.length cl) H0 at').toArray] (fun w=>RdF yw (.slice pk ks.length ck) ks w∧RdE dqF (.slice pl l.length cl) l w∧(∀ x∈l,aex w x)∧oy w) (Is (.bool true)):=by
 have hC:=aec p q g h0 a f sec pk ck ks hp hq hg hh0 ha hks hf1 hf2 hs1 hs2;have hL:=abR;have hbl:(byC H0).length=32:=by rw[zh];exact hHl
 have hc2:cut (seC (csC p q g h0 a f sec (.slice pk ks.length ck)) (.slice pl l.length cl) H0 at') 24 32=byC H0:=by
  show (byC H0++[Value.int .u8 (at' : Int)]).take 32=byC H0;exact List.take_left' hbl
 have hc3:(seC (csC p q g h0 a f sec (.slice pk ks.length ck)) (.slice pl l.length cl) H0 at')[56]?=some (.int .u8 (at' : Int)):=by
  show (byC H0++[Value.int .u8 (at' : Int)])[32]?=_;rw[List.getElem?_append_right (by omega),hbl];rfl
 refine Fn.enter Tryz.func5 rfl rfl rfl ?_;intro w hw;obtain⟨w1,w2,w4,w3⟩:=hw
 repeat (first|refine WO.does (zy (vs:=csC p q g h0 a f sec (.slice pk ks.length ck)) (hc:=rfl)) ?_|refine WO.does (zy (vs:=byC H0) (hc:=hc2) (hl:=hbl)) ?_|refine WO.does (zR (hc:=hc3)) ?_|refine WO.stores (zC (vs:=byC H0) (cs':=byC H0) (hl:=hbl) (h1:=zM _) (hc:=z7 (by rw[hbl];rfl)) (hle:=by rw[hbl];rfl)) ?_|refine Ta ?_|(refine Tm ?_;intro _)|refine Tc ?_|exact Tz)
 rename_i gq gz gn;clear hc2 hc3;refine WO.callsL (hc:=Fn.toL hC) (hp:=.nil) (hR:=fun wx hm=>w1.mod hm.mod) (k:=fun v N hv=>?_);cases hcb:mH p q g a f sec ks with
 | false =>
  rw[hcb] at hv;obtain⟨cs,rfl,hl,h1⟩:=hv.2 rfl;refine WO.flip ?_;simp only[List.cons_append,List.nil_append]
  repeat (first|refine Ta ?_|(refine Tm ?_;intro _)|refine WO.acall (hc:=hL) (k:=?_)|refine WO.stores (zC (vs:=cs) (cs':=cs) (hl:=hl) (h1:=h1) (hc:=z7 (by rw[hl];rfl)) (hle:=by rw[hl];rfl)) ?_|refine Tc ?_|exact Tz)
  done
 | true =>
 rw[hcb] at hv;obtain⟨gN,cN,rfl,rfl,hNl,hcN⟩:=hv.1 rfl;have hcs:=dG hcb;simp only[List.cons_append,List.nil_append]
 by_cases hl12:12<l.length
 ·repeat (first|refine WO.does (tL rfl rfl (by omega)) ?_|refine Ta ?_|(refine Tm ?_;intro _)|refine WO.acall (hc:=hL) (k:=?_)|refine Tc ?_|exact Tz)
  done
 by_cases hF0:f=0
 ·repeat (first|refine WO.does (yU rfl rfl (by omega)) ?_|refine WO.does (yf rfl rfl hF0) ?_|refine Ta ?_|(refine Tm ?_;intro _)|refine WO.acall (hc:=hL) (k:=?_)|refine Tc ?_|exact Tz)
  done
 obtain⟨hs1',hs7,hsq,hs0,hs2',hs5,_,_⟩:=vK hcs.set;have h3f:=acI hcs.set;obtain⟨F,rfl⟩ : ∃ F:Nat,f=(F:Int):=⟨f.toNat,by omega⟩;obtain⟨m,rfl⟩ : ∃ m:Nat,sec=(m:Int):=⟨sec.toNat,by omega⟩;have hNl2:=uq p g a ks;rw[hNl2] at h3f;have hn:0<ks.length:=by omega
 have hq0:0<q:=by omega
 obtain⟨ep,hep⟩ : ∃ ep:Nat,ep=3:=⟨3,rfl⟩;have hNew:=aeQ p q g (exN p g a) (F:Int) (m:Int) (some ⟨gN,0,none⟩) cN (csN p g a ks) ep hp hq hg (sa hp) (jp hp) (by omega) hf1 hf2 hs1 hs2 (by omega) hcs.set;have e3:((ep:Nat):Int)=3:=by omega
 rw[e3] at hNew;have hNok:=jp (p:=p) (g:=g) (a:=a) (ks:=ks) hp;rw[hNl2] at hNew ⊢
 repeat (first|refine WO.does (yU rfl rfl (by omega)) ?_|refine WO.does (yn rfl rfl hF0) ?_|refine Ta ?_|(refine Tm ?_;intro _)|refine Tc ?_|exact Tz)
 refine WO.callsL (hc:=Fn.toL hNew) (hp:=.nil) (hR:=fun wx hm=>RdF.ownO (Hs.sg hm) hNl2) (k:=fun v N' hv=>?_);obtain⟨k,rfl,rfl,hO⟩:=hv;obtain rfl:=hO.ep;refine WO.flip ?_;simp only[List.cons_append,List.nil_append]
 repeat (first|refine WO.does (zO rfl rfl rfl) ?_|refine Ta ?_|(refine Tm ?_;intro _)|refine Tc ?_|exact Tz)
 rename_i gS;have hI0:PlI k (fun _=>0) []:=PlI.nil k (by rw[hO.N];omega);have hK:acf k:=⟨by rw[hO.p];exact hp,by rw[hO.q];exact hq,by rw[hO.g];exact hg,by rw[hO.h];exact sa hp,by rw[hO.N];exact hNok,by rw[hO.f];exact hf1,by rw[hO.f];exact hf2,by rw[hO.sec];exact hs1,by rw[hO.sec];exact hs2⟩
 refine WC.loopI (σ:=Sb) (fun s=>s.i≤l.length∧s.D.length≤s.i∧PlI k s.lc s.D) (fun s=>[(3,Sx.pt gz),(4,.slice pl l.length cl),(5,Sx.pt gn),(6,.int .u8 (at' : Int)),(7,Sx.pt gS),(9,Sx.pt k.P),(11,.int .i64 (s.i:Int))])
  (fun s=>⟨gz,29,csC p q g h0 a (F:Int) (m:Int) (.slice pk ks.length ck)⟩::⟨gn,60,byC H0⟩::⟨gS,37,stC p q g (exN p g a) (F:Int) (m:Int) (.slice (some ⟨gN,0,none⟩) ks.length cN)⟩::⟨gN,78,(csN p g a ks).flatMap yw++mkz (cN - ks.length) (ui 0 0)⟩::vT k s.lg s.lc s.D) (fun s=>l.length - s.i) ⟨0,fun _=>0,fun _=>0,[]⟩ (fun s hi=>?_) ⟨Nat.zero_le _,Nat.le_refl _,hI0⟩ (hl:=by repeat (first|exact Lle.left'|refine Lle.c ?_|refine Lle.skp ?_))
 obtain⟨i,lg,lc,D⟩:=s;obtain⟨hi,hDi,hI⟩:=hi;dsimp only at hi hDi hI ⊢
 by_cases hlt:i<l.length
 ·obtain⟨x,hx⟩ : ∃ x,l[i]?=some x:=⟨_,List.getElem?_eq_getElem hlt⟩;have hxk:=w4 x (List.mem_of_getElem? hx);obtain⟨bl,ol,rfl,_,hsl⟩:=RdE.get w2 hx;have hcx:=ad3 (o:=ol) hx;have hDe0:=acb p q g h0 a F m pk ck ks (some ⟨gN,0,none⟩) cN k.ep x.d x.pt x.c x.P hcs hn hp hq hg hh0 ha hks hxk.P hxk.d (by omega);have hVl:=abU (p:=p) (q:=q) (g:=g) (a:=a) (F:=F) (m:=m) (ks:=ks) (ep:=k.ep) (d:=x.d) (P:=x.P);have hYl:=aaY (p:=p) (q:=q) (g:=g) (a:=a) (F:=F) (m:=m) (ks:=ks) (ep:=k.ep) (d:=x.d) (P:=x.P);have hPl:=aa7 (p:=p) (q:=q) (g:=g) (a:=a) (F:=F) (m:=m) (ks:=ks) (ep:=k.ep) (d:=x.d) (P:=x.P);have hfit:=acN (p:=p) (q:=q) (g:=g) (a:=a) (F:=F) (m:=m) (ks:=ks) (ep:=k.ep) (d:=x.d) (P:=x.P) hn (by omega);have hnum:=abS (p:=p) (q:=q) (g:=g) (a:=a) (F:=F) (m:=m) (ks:=ks) (ep:=k.ep) (d:=x.d) (P:=x.P) hp hq hq0;have hxd:=aeE (p:=p) (q:=q) (g:=g) (a:=a) (F:=F) (m:=m) (ks:=ks) (ep:=k.ep) (d:=x.d) (P:=x.P) hn;have hxc:=adA (ep:=k.ep) (d:=x.d) (P:=x.P) hcs hn;generalize dqX p q g a F m ks k.ep x.d x.P=X at *;generalize csN p g a ks=N at *
  have hDe:Fn Tryz.prog 9 [csV p q g h0 a (F:Int) (m:Int) (.slice pk ks.length ck),stV p q g (exN p g a) (F:Int) (m:Int) (.slice (some ⟨gN,0,none⟩) ks.length cN),.int .u64 3,dqV x.d (.slice x.pt x.P.length x.c)] (fun w=>RdF yw (.slice pk ks.length ck) ks w∧RdF yw (.slice (some ⟨gN,0,none⟩) ks.length cN) N w∧RdE aap (.slice x.pt x.P.length x.c) x.P w)
   (Ex (fun s=>acV k.ep X (some ⟨s 0,0,none⟩) (some ⟨s 1,0,none⟩) (some ⟨s 2,0,none⟩) X.V.length X.Y.length X.P.length) (fun s=>ddL X ⟨s 0,s 1,s 2,0,0,0⟩) (fun _=>True)):=by
   rw[hVl,hYl,hPl,← e3];exact hDe0
  clear hDe0;have hadd:IntKind.i64.wrap ((i:Int)+1)=((i+1:Nat):Int):=zr (by omega) (by omega) (by omega)
  repeat (first|refine Tw ?_|(refine Tm ?_;intro _)|exact Tz)
  refine WC.dT rfl (by omega) ?_
  repeat (first|refine Tw ?_|(refine Tm ?_;intro _)|exact Tz)
  refine WC.adraw 8 (k:=?_)
  iterate 5 (first|refine Da ?_|refine Dc ?_)
  refine DQ.does (fun s _=>zb (o':=ol+i*2) rfl rfl hlt rfl) Dp.const ?_;refine DQ.does (fun s _=>zn (vs:=dqF x) (hs:=hsl) (hle:=Nat.le_add_right _ _) (hc:=hcx)) Dp.const ?_;refine DQ.acallX (hc:=hDe) (hR:=fun wx hm=>⟨w1.mod hm.mod,RdF.ownO (Hs.sg hm) hNl2,hxk.r.mod hm.mod⟩) (k:=?_);refine DQ.anil (k:=?_);intro sx _
  try simp only[List.map_cons,List.map_nil,List.cons_append,List.nil_append]
  generalize sx 7 0=gV;generalize sx 7 1=gY;generalize sx 7 2=gP;simp only[ddL,List.map_cons,List.map_nil,List.cons_append,List.nil_append];refine WO.mine (fun hmn=>?_);have h00:0 ∉ (vT k lg lc D).map Ent.g:=fun hm=>by
   obtain⟨e,he,h1⟩:=List.mem_map.1 hm;have h2:=(hmn e (by repeat (first|exact he|apply List.mem_cons_of_mem))).resolve_right (by simp);have h3:0<w.heap.size:=oF (w3 0 aJ rfl);omega
  clear hmn;have hPA:=bB k lg lc D X X.V.length X.Y.length X.P.length ⟨gV,gY,gP,0,0,0⟩ hK hI hfit hnum (by rw[hO.N];exact hxd) (by
   unfold ckP;rw[hO.p,hO.q,hO.g,hO.h,hO.f,hO.sec,hO.N];exact hxc) (by omega) h00 _ rfl
  refine WO.callsT (hc:=hPA) (T:=vT k lg lc D) (hq:=fun v N hv=>hv) (Tl.eq (by repeat (first|exact Tl.here|apply Tl.cons))) (.cons Pk.a (.cons Pk.a (.cons Pk.a .nil))) (fun wx hm=>w3.mod hm.mod (by simp)) (fun v T' hv=>?_);obtain⟨rfl,lg2,lc2,D2,rfl,hI2,hD2,z,hzD,hze⟩:=hv;have hDl:D2.length≤D.length+1:=by
   have e:=congrArg List.length hD2;rw[List.length_map] at e;rw[e]
   split<;>simp
  simp only[List.cons_append,List.nil_append,List.append_assoc]
  repeat (first|refine WO.does (zl rfl rfl hadd) ?_|refine Ta ?_|(refine Tm ?_;intro _)|refine Tc ?_|exact Tz)
  exact WX.metI ⟨i+1,lg2,lc2,D2⟩ (hl:=by repeat (first|exact Lle.left'|refine Lle.c ?_|refine Lle.skp ?_)) (hs:=⟨⟨by show i+1≤l.length;omega,by show D2.length≤i+1;omega,hI2⟩,by show l.length - (i+1)<l.length - i;omega⟩)
 have hi3:i=l.length:=by omega
 subst hi3
 repeat (first|refine Tw ?_|(refine Tm ?_;intro _)|exact Tz)
 refine WC.dF rfl (by omega) ?_;have hnf1 : -9223372036854775808≤(k.N.length:Int) - k.f:=by rw[hO.N,hO.f];omega
 have hnf2:(k.N.length:Int) - k.f≤9223372036854775807:=by rw[hO.N,hO.f];omega
 have hnf:(k.N.length:Int) - k.f=(ks.length:Int) - (F:Int):=by rw[hO.N,hO.f,hNl2]
 by_cases hen:(k.N.length:Int) - k.f≤((rK k.ep D).length:Int)
 case neg =>
  have hFi:=aI k lg lc D hI hnf1 hnf2 hen
  by_cases hno:∀ z∈D,ddH k.ep z.1≠H0
  ·have hGe:=aax k lg lc D hI H0 hHb hHl hno
   repeat (first|refine WO.does (zy (vs:=byC H0) (hc:=zz hbl) (hl:=hbl)) ?_|refine Ta ?_|(refine Tm ?_;intro _)|refine WO.acall (hc:=hL) (k:=?_)|refine WO.acallR (hc:=hFi) (hR:=fun wx hm=>fun e he=>hm.ok e (by repeat (first|exact he|apply List.mem_cons_of_mem))) (k:=?_)|refine WO.acallR (hc:=hGe) (hR:=fun wx hm=>fun e he=>hm.ok e (by repeat (first|exact he|apply List.mem_cons_of_mem))) (k:=?_)|refine Tc ?_|exact Tz)
   done
  ·obtain⟨z,hzD,rfl⟩ : ∃ z∈D,ddH k.ep z.1=H0:=Classical.byContradiction fun hc=>hno fun z hz e=>hc ⟨z,hz,e⟩;have hGe:=adD k lg lc D hI hzD
   repeat (first|refine WO.does (zy (vs:=byC (ddH k.ep z.1)) (hc:=zz hbl) (hl:=hbl)) ?_|refine Ta ?_|(refine Tm ?_;intro _)|refine WO.acall (hc:=hL) (k:=?_)|refine WO.acallR (hc:=hFi) (hR:=fun wx hm=>fun e he=>hm.ok e (by repeat (first|exact he|apply List.mem_cons_of_mem))) (k:=?_)|refine WO.acallX (hc:=hGe) (hR:=fun wx hm=>fun e he=>hm.ok e (by repeat (first|exact he|apply List.mem_cons_of_mem))) (k:=fun s _=>?_)|refine Tc ?_|exact Tz)
   done
 have hF2:2≤(rK k.ep D).length:=by omega
 have hFi:=bj k lg lc D hI hnf1 hnf2 hen (by omega)
 repeat (first|refine Tw ?_|(refine Tm ?_;intro _)|exact Tz)
 refine WO.acallX (hc:=hFi) (hR:=fun wx hm=>fun e he=>hm.ok e (by repeat (first|exact he|apply List.mem_cons_of_mem))) (k:=fun s _=>?_);generalize s 0=gF;generalize s 1=rF;simp only[List.cons_append,List.nil_append]
 by_cases hno:∀ z∈D,ddH k.ep z.1≠H0
 case neg =>
  obtain⟨z,hzD,rfl⟩ : ∃ z∈D,ddH k.ep z.1=H0:=Classical.byContradiction fun hc=>hno fun z hz e=>hc ⟨z,hz,e⟩;have hGe:=adD k lg lc D hI hzD
  repeat (first|refine WO.does (zy (vs:=byC (ddH k.ep z.1)) (hc:=zz hbl) (hl:=hbl)) ?_|refine WO.does (yf rfl rfl rfl) ?_|refine Ta ?_|(refine Tm ?_;intro _)|refine WO.acall (hc:=hL) (k:=?_)|refine WO.acallX (hc:=hGe) (hR:=fun wx hm=>fun e he=>hm.ok e (by repeat (first|exact he|apply List.mem_cons_of_mem))) (k:=fun s _=>?_)|refine Tc ?_|exact Tz)
  done
 have hGe:=aax k lg lc D hI H0 hHb hHl hno;have hF7:(rK k.ep D).length≤7:=by rw[aM hI];exact Nat.le_trans (List.length_filter_le _ _) (by rw[List.length_range'];exact hI.n7)
 have hFb:=fun H (hH:H∈rK k.ep D)=>acJ hH;have hFs:=bE hI;have hFn:=dm hno;have hSt:=fun pl cl hs hb hl=>aeB k lg lc D hI pl cl hs hb hl hnf1 hnf2;generalize rK k.ep D=FF at *;generalize iZ k.ep D=fn at *;obtain⟨n,hn'⟩ : ∃ n,FF.length=n:=⟨_,rfl⟩;rw[hn'] at hen hF2 hF7 ⊢;have hF32:=ae3 hFb;have hcv:IntKind.i64.wrap (at' : Int)=(at' : Int):=i64_in (by omega) (by omega);have hrm:((at' : Int)).tmod (n:Int)=((at'%n:Nat):Int):=rfl;have hj:at'%n<n:=Nat.mod_lt _ (by omega);have hn0:((n:Nat):Int)≠0:=by omega
 generalize at'%n=j at *;obtain⟨X,hX⟩ : ∃ X,FF[j]?=some X:=⟨_,List.getElem?_eq_getElem (by omega)⟩;have hXb:=hFb X (List.mem_of_getElem? hX);have hXl:(byC X).length=32:=hF32 X (List.mem_of_getElem? hX);have hadd:IntKind.i64.wrap ((j:Int)+1)=((j+1:Nat):Int):=zr (by omega) (by omega) (by omega);have hcX:cut (FF.flatMap byC++mkz rF (byC (List.replicate 32 0))) (0+j*32) 32=byC X:=by rw[Nat.zero_add];exact uQ hF32 hX
 have hct:=fA (R:=mkz rF (byC (List.replicate 32 0))) hF32 (k:=j+1) (by omega);obtain⟨o',ho',hcf⟩:=cQ (g:=gF) (R:=mkz rF (byC (List.replicate 32 0))) hn' hF32 (k:=j+1) (by omega);have htk:(FF.take (j+1)).length=j+1:=by rw[List.length_take];omega
 have ht32:((FF.take (j+1)).flatMap byC).length=(j+1)*32:=by rw[te (fun x hx=>hF32 x (List.mem_of_mem_take hx)),htk]
 have hd32:((FF.drop (j+1)).flatMap byC).length=(n - (j+1))*32:=by rw[te (fun x hx=>hF32 x (List.mem_of_mem_drop hx)),List.length_drop,hn']
 have ha32:((FF.take (j+1)).flatMap byC++byC X).length=(j+1+1)*32:=by rw[List.length_append,ht32,hXl];omega
 have h1X:(byC X).length=1*(byC (List.replicate 32 0)).length:=by rw[hXl];rfl
 have hTW:(FF.take (j+1)).flatMap byC++byC X++(FF.drop (j+1)).flatMap byC=(FF.take (j+1)++[X]++FF.drop (j+1)).flatMap byC:=by simp
 have hTl:(FF.take (j+1)++[X]++FF.drop (j+1)).length=n+1:=by rw[List.length_append,List.length_append,htk,List.length_drop,hn',List.length_singleton];omega
 have hTb:∀ H∈FF.take (j+1)++[X]++FF.drop (j+1),(∀ b∈H,b<256)∧H.length=32:=fun H hH=>by
  rcases List.mem_append.1 hH with hH|hH
  ·rcases List.mem_append.1 hH with hH|hH
   ·exact hFb H (List.mem_of_mem_take hH)
   ·rw[List.mem_singleton.1 hH];exact hXb
  ·exact hFb H (List.mem_of_mem_drop hH)
 have h1:=hSt (some ⟨gF,0,none⟩) n FF hFb (by omega);have h2:=fun g c=>hSt (some ⟨g,0,none⟩) c (FF.take (j+1)++[X]++FF.drop (j+1)) hTb (by omega);have h3:=fun g c=>hSt (some ⟨g,0,none⟩) c (FF.set j H0) (fun H hH=>(List.mem_or_eq_of_mem_set hH).elim (hFb H) (fun e=>e ▸ ⟨hHb,hHl⟩)) (by rw[List.length_set];omega);have h4:=fun g c=>hSt (some ⟨g,0,none⟩) c FF.reverse (fun H hH=>hFb H (List.mem_reverse.1 hH)) (by rw[List.length_reverse];omega);have h5:=hSt (some ⟨gF,0,none⟩) n (FF.take (ks.length - F - 1)) (fun H hH=>hFb H (List.mem_of_mem_take hH)) (by rw[List.length_take];omega);have h5l:(FF.take (ks.length - F - 1)).length=ks.length - F - 1:=by rw[List.length_take];omega
 rw[hFs,Bool.true_and,hn',decide_eq_true (by omega)] at h1;simp only[fM hX,Bool.false_and,hTl] at h2;simp only[eO hFn (show j<FF.length by omega),Bool.false_and,List.length_set,hn'] at h3;simp only[ig hFs (show 2≤FF.length by omega),Bool.false_and,List.length_reverse,hn'] at h4;rw[h5l,decide_eq_false (by omega),Bool.and_false] at h5;have hFspl:FF.flatMap byC++mkz rF (byC (List.replicate 32 0))=(FF.take (ks.length - F - 1)).flatMap byC++((FF.drop (ks.length - F - 1)).flatMap byC++mkz rF (byC (List.replicate 32 0))):=by rw[← List.append_assoc,← List.flatMap_append,List.take_append_drop]
 have hFl32:(FF.flatMap byC).length=n*32:=by rw[te hF32,hn']
 have hcF:cut (FF.flatMap byC++mkz rF (byC (List.replicate 32 0))) 0 (n*32)=FF.flatMap byC:=jb hFl32;have hsub:IntKind.i64.wrap ((n:Int) - 1)=(n:Int) - 1 - ((0:Nat):Int):=zr (by omega) (by omega) (by omega);have hsF:IntKind.i64.wrap ((ks.length:Int) - (F:Int))=((ks.length - F:Nat):Int):=zr (by omega) (by omega) (by omega);have hsF1:IntKind.i64.wrap (((ks.length - F:Nat):Int) - 1)=((ks.length - F - 1:Nat):Int):=zr (by omega) (by omega) (by omega);clear hSt
 repeat (first|refine WO.does (zy (vs:=byC H0) (hc:=zz hbl) (hl:=hbl)) ?_|refine WO.does (yn rfl rfl (by decide)) ?_|refine WO.does (zN rfl hcv) ?_|refine WO.does (vw rfl rfl hn0 hrm) ?_|refine Ta ?_|(refine Tm ?_;intro _)|refine WO.acallR (hc:=hGe) (hR:=fun wx hm=>fun e he=>hm.ok e (by repeat (first|exact he|apply List.mem_cons_of_mem))) (k:=?_)|refine Tc ?_|exact Tz)
 rename_i gx;refine WC.mainT [4,9,10,15,16] [(0,.slice (some ⟨gF,0,none⟩) n n),(1,.int .i64 (j:Int)),(2,.int .i64 ((j+1:Nat):Int)),(3,.slice (some ⟨gF,0,none⟩) (j+1) n),(5,.slice (some ⟨gF,0,none⟩) n n),(6,.int .i64 (j:Int)),(7,.pointer (some ⟨gF,0+j*32,none⟩)),(8,.agg (byC X).toArray),(11,.slice (some ⟨gF,0,none⟩) n n),(12,.int .i64 (j:Int)),(13,.int .i64 ((j+1:Nat):Int)),(14,.slice (some ⟨gF,o',none⟩) (n - (j+1)) (n - (j+1)))] (by decide) (fun XX hXX=>?_);refine WT.with [⟨gF,60,FF.flatMap byC++mkz rF (byC (List.replicate 32 0))⟩] (by kernel_rfl) (Tls.auto (Tls.auto (Tls.cons rfl (zl rfl rfl hadd) (Tls.cons rfl (vj rfl rfl (by omega)) (Tls.auto (Tls.auto (Tls.cons rfl (zb (o':=0+j*32) rfl rfl hj rfl) (Tls.cons rfl (zy (vs:=byC X) (hc:=hcX) (hl:=hXl)) (Tls.auto (Tls.auto (Tls.cons rfl (zl rfl rfl hadd) (Tls.cons rfl (ql rfl rfl (by omega) ho') Tls.nil)))))))))))) (fun hc hT=>?_)
 suffices key:∀ g15 c15,XX [(5,Sx.pt gn),(7,Sx.pt gS),(9,Sx.pt k.P),(12,.slice (some ⟨gF,0,none⟩) n n),(16,.int .i64 (j:Int)),(17,.slice (some ⟨g15,0,none⟩) (n+1) c15)] (⟨g15,60,(FF.take (j+1)++[X]++FF.drop (j+1)).flatMap byC++mkz (c15 - (n+1)) (byC (List.replicate 32 0))⟩::⟨gF,60,FF.flatMap byC++mkz rF (byC (List.replicate 32 0))⟩::⟨gn,60,byC H0⟩::⟨gS,37,stC p q g (exN p g a) (F:Int) (m:Int) (.slice (some ⟨gN,0,none⟩) ks.length cN)⟩::vT k lg lc D) by
  refine WT.step [4,9] (by decide) hc hT ⟨⟨_,rfl,?_⟩,⟨_,rfl,?_⟩,trivial⟩
  ·refine WO.appNZ (z:=(byC (List.replicate 32 0))) (ys:=(FF.take (j+1)).flatMap byC) (m:=j+1) rfl rfl rfl (Rds.own (m:=(j+1)*32) Hs.a hct) ht32 (by omega) (by omega) (by omega) (by decide) (fun g4 c4 a4 b4=>?_);refine WO.nil (WX.wt [(97,.slice (some ⟨g4,0,none⟩) (j+1) c4)] ?_);refine WT.step [9] (by decide) hc hT ⟨⟨_,rfl,?_⟩,trivial⟩ (hl0:=by repeat (first|exact Lle.nil|refine Lle.c ?_));refine WO.makes (ze (cs:=byC X) rfl (by decide) (vk hXl)) ?_;intro g9;refine WO.nil (WX.wt [(102,.slice (some ⟨g9,0,none⟩) 1 1)] ?_);refine WT.step [10] (by decide) hc hT ⟨⟨_,rfl,?_⟩,trivial⟩ (hl0:=by repeat (first|exact Lle.nil|refine Lle.c ?_));refine WO.appKZ (z:=(byC (List.replicate 32 0))) (m:=1) (l:=j+1+1) rfl rfl rfl (xs:=(FF.take (j+1)).flatMap byC) (ys:=byC X) ht32 b4 Pk.a (Rds.own (m:=32) Hs.a (zz hXl)) h1X (zM _) rfl (by omega) a4 (by omega) (by decide) (by decide) (fun g10 c10 a10 b10=>?_);refine WO.nil (WX.wt [(103,.slice (some ⟨g10,0,none⟩) (j+1+1) c10)] ?_);refine WT.step [15] (by decide) hc hT ⟨⟨_,rfl,?_⟩,trivial⟩ (hl0:=by repeat (first|exact Lle.nil|refine Lle.c ?_));refine WO.appKZ (z:=(byC (List.replicate 32 0))) (m:=n - (j+1)) (l:=n+1) rfl rfl rfl (xs:=(FF.take (j+1)).flatMap byC++byC X) (ys:=(FF.drop (j+1)).flatMap byC) ha32 b10 Pk.a (Rds.own (m:=(n - (j+1))*32) Hs.a hcf) hd32 (mJ _) (by omega) (by omega) a10 (by omega) (by decide) (by decide) (fun g15 c15 a15 b15=>?_);rw[hTW];refine WO.nil (WX.wt [(108,.slice (some ⟨g15,0,none⟩) (n+1) c15)] ?_);refine WT.step [16] (by decide) hc hT ⟨⟨_,rfl,?_⟩,trivial⟩ (hl0:=by repeat (first|exact Lle.nil|refine Lle.c ?_));refine WO.does (tz rfl) ?_;refine WO.nil (WX.wt [(17,.slice (some ⟨g15,0,none⟩) (n+1) c15)] ?_);refine WT.finA (m:=16) 5 hc rfl rfl (by kernel_rfl) ?_;exact WX.weak ((hXX _ _).1 (key g15 c15)) (by repeat (first|exact Kle.nil|refine Kle.cons rfl rfl ?_)) (by repeat (first|exact Lle.left'|refine Lle.c ?_|refine Lle.skp ?_))
  ·refine WO.makes (ze (cs:=byC X) rfl (by decide) (vk hXl)) ?_;intro g9;refine WO.nil (WX.wt [(102,.slice (some ⟨g9,0,none⟩) 1 1)] ?_);refine WT.step [4] (by decide) hc hT ⟨⟨_,rfl,?_⟩,trivial⟩ (hl0:=by repeat (first|exact Lle.nil|refine Lle.c ?_));refine WO.appNZ (z:=(byC (List.replicate 32 0))) (ys:=(FF.take (j+1)).flatMap byC) (m:=j+1) rfl rfl rfl (Rds.own (m:=(j+1)*32) Hs.a hct) ht32 (by omega) (by omega) (by omega) (by decide) (fun g4 c4 a4 b4=>?_);refine WO.nil (WX.wt [(97,.slice (some ⟨g4,0,none⟩) (j+1) c4)] ?_);refine WT.step [10] (by decide) hc hT ⟨⟨_,rfl,?_⟩,trivial⟩ (hl0:=by repeat (first|exact Lle.nil|refine Lle.c ?_));refine WO.appKZ (z:=(byC (List.replicate 32 0))) (m:=1) (l:=j+1+1) rfl rfl rfl (xs:=(FF.take (j+1)).flatMap byC) (ys:=byC X) ht32 b4 Pk.a (Rds.own (m:=32) Hs.a (zz hXl)) h1X (zM _) rfl (by omega) a4 (by omega) (by decide) (by decide) (fun g10 c10 a10 b10=>?_);refine WO.nil (WX.wt [(103,.slice (some ⟨g10,0,none⟩) (j+1+1) c10)] ?_);refine WT.step [15] (by decide) hc hT ⟨⟨_,rfl,?_⟩,trivial⟩ (hl0:=by repeat (first|exact Lle.nil|refine Lle.c ?_));refine WO.appKZ (z:=(byC (List.replicate 32 0))) (m:=n - (j+1)) (l:=n+1) rfl rfl rfl (xs:=(FF.take (j+1)).flatMap byC++byC X) (ys:=(FF.drop (j+1)).flatMap byC) ha32 b10 Pk.a (Rds.own (m:=(n - (j+1))*32) Hs.a hcf) hd32 (mJ _) (by omega) (by omega) a10 (by omega) (by decide) (by decide) (fun g15 c15 a15 b15=>?_);rw[hTW];refine WO.nil (WX.wt [(108,.slice (some ⟨g15,0,none⟩) (n+1) c15)] ?_);refine WT.step [16] (by decide) hc hT ⟨⟨_,rfl,?_⟩,trivial⟩ (hl0:=by repeat (first|exact Lle.nil|refine Lle.c ?_));refine WO.does (tz rfl) ?_;refine WO.nil (WX.wt [(17,.slice (some ⟨g15,0,none⟩) (n+1) c15)] ?_);refine WT.finA (m:=16) 5 hc rfl rfl (by kernel_rfl) ?_;exact WX.weak ((hXX _ _).1 (key g15 c15)) (by repeat (first|exact Kle.nil|refine Kle.cons rfl rfl ?_)) (by repeat (first|exact Lle.left'|refine Lle.c ?_|refine Lle.skp ?_))
 clear hc hT ha32 hd32 ht32 htk hcf ho' hct hcX;intro g15 c15;refine (hXX _ _).2 ?_;clear hXX XX;have hov:∀ R,over (FF.flatMap byC++R) (0+j*32) (byC H0)=(FF.set j H0).flatMap byC++R:=fun R=>by rw[Nat.zero_add];exact fY hF32 hbl (by omega)
 have hle:∀ R,Nat.ble (0+j*32+(byC H0).length) (FF.flatMap byC++R).length=true:=fun R=>by rw[hbl,Nat.ble_eq,List.length_append,hFl32];omega
 repeat (first|refine WO.does (zy (vs:=byC H0) (hc:=zz hbl) (hl:=hbl)) ?_|refine WO.does (zb (o':=0+j*32) rfl rfl hj rfl) ?_|refine Ta ?_|(refine Tm ?_;intro _)|refine WO.appNZ (z:=(byC (List.replicate 32 0))) (ys:=FF.flatMap byC) (m:=n) rfl rfl rfl (Rds.own (m:=n*32) Hs.a hcF) hFl32 (by omega) (by omega) (by omega) (by decide) (fun g18 c18 a18 b18=>?_)|refine Tc ?_|exact Tz)
 refine WO.stores (zC (vs:=byC H0) (cs':=(FF.set j H0).flatMap byC++mkz (c18 - n) (byC (List.replicate 32 0))) (hl:=hbl) (h1:=zM _) (hc:=hov _) (hle:=hle _)) ?_
 repeat (first|refine WO.does (zH rfl rfl hsub) ?_|refine Ta ?_|(refine Tm ?_;intro _)|refine Tc ?_|exact Tz)
 refine WC.loopI (σ:=Sr) (fun s=>s.j≤n∧(0<s.j→s.j≤s.c∧s.c<9223372036854775808)) (fun s=>[(7,Sx.pt gS),(9,Sx.pt k.P),(12,.slice (some ⟨gF,0,none⟩) n n),(17,.slice (some ⟨g15,0,none⟩) (n+1) c15),(18,.slice (some ⟨g18,0,none⟩) n c18),(19,agV s.g s.c s.j s.j),(20,.int .i64 ((n:Int) - 1 - (s.j:Int)))])
  (fun s=>rwL 60 s.g ((FF.reverse.take s.j).flatMap byC) (mkz (s.c - s.j) (byC (List.replicate 32 0))) s.j++(⟨g18,60,(FF.set j H0).flatMap byC++mkz (c18 - n) (byC (List.replicate 32 0))⟩::⟨g15,60,(FF.take (j+1)++[X]++FF.drop (j+1)).flatMap byC++mkz (c15 - (n+1)) (byC (List.replicate 32 0))⟩::⟨gF,60,FF.flatMap byC++mkz rF (byC (List.replicate 32 0))⟩::⟨gS,37,stC p q g (exN p g a) (F:Int) (m:Int) (.slice (some ⟨gN,0,none⟩) ks.length cN)⟩::vT k lg lc D)) (fun s=>n - s.j) ⟨0,0,0⟩ (fun s hi=>?_) ⟨Nat.zero_le _,fun h=>absurd h (Nat.lt_irrefl 0)⟩ (hl:=by dsimp only[rwL,List.nil_append];repeat (first|exact Lle.left'|refine Lle.c ?_|refine Lle.skp ?_))
 obtain⟨jj,gR,cR⟩:=s;obtain⟨hjn,hjc⟩:=hi;dsimp only at hjn hjc ⊢
 by_cases hlt:jj<n
 ·obtain⟨Y,hY⟩ : ∃ Y,FF[n - 1 - jj]?=some Y:=⟨_,List.getElem?_eq_getElem (by omega)⟩;have hYl:=hF32 Y (List.mem_of_getElem? hY);have hcY:cut (FF.flatMap byC++mkz rF (byC (List.replicate 32 0))) ((n - 1 - jj)*32) 32=byC Y:=uQ hF32 hY;have hRe:FF.reverse[jj]?=some Y:=by rw[List.getElem?_reverse (by omega),hn'];exact hY
  have hRs:(FF.reverse.take jj).flatMap byC++byC Y=(FF.reverse.take (jj+1)).flatMap byC:=by rw[List.take_add_one,hRe,List.flatMap_append];simp
  have hRl:(FF.reverse.take jj).length=jj:=by rw[List.length_take,List.length_reverse];omega
  have hR32:((FF.reverse.take jj).flatMap byC).length=jj*32:=by rw[te (fun x hx=>hF32 x (List.mem_reverse.1 (List.mem_of_mem_take hx))),hRl]
  have h1Y:(byC Y).length=1*(byC (List.replicate 32 0)).length:=by rw[hYl];rfl
  have hdn:IntKind.i64.wrap (((n - 1 - jj:Nat):Int) - 1)=(n:Int) - 1 - ((jj+1:Nat):Int):=zr (by omega) (by omega) (by omega);have hiy:n - 1 - jj<n:=by omega
  rw[show (n:Int) - 1 - (jj:Int)=((n - 1 - jj:Nat):Int) by omega];generalize n - 1 - jj=iy at *
  rcases Nat.eq_zero_or_pos jj with rfl|hpos
  ·dsimp only[agV,rwL];simp only[List.nil_append];have hR0:byC Y=(FF.reverse.take (0+1)).flatMap byC:=by rw[← hRs];simp
   repeat (first|refine Tw ?_|(refine Tm ?_;intro _)|exact Tz)
   refine WO.does (zy (vs:=byC Y) (hc:=hcY) (hl:=hYl)) ?_;refine WO.makes (ze (cs:=byC Y) rfl (by decide) (vk hYl)) ?_;intro gB;refine WO.appNZ (z:=(byC (List.replicate 32 0))) (ys:=byC Y) (m:=1) rfl rfl rfl (Rds.own (m:=32) Hs.a (zz hYl)) h1Y (by decide) (by decide) (by decide) (by decide) (fun g1 c1 a1 b1=>?_)
   repeat (first|refine WO.does (zH rfl rfl hdn) ?_|refine Ta ?_|(refine Tm ?_;intro _)|refine Tc ?_|exact Tz)
   rw[hR0];exact WX.metI ⟨0+1,g1,c1⟩ (hl:=by repeat (first|exact Lle.left'|refine Lle.c ?_|refine Lle.skp ?_)) (hs:=⟨⟨by show 0+1≤n;omega,fun _=>⟨b1,a1⟩⟩,by show n - (0+1)<n - 0;omega⟩)
  ·obtain⟨j',rfl⟩ : ∃ j',jj=j' + 1:=⟨jj - 1,by omega⟩;obtain⟨r1,r2⟩:=hjc (by omega);dsimp only[agV,rwL];simp only[List.cons_append,List.nil_append]
   repeat (first|refine Tw ?_|(refine Tm ?_;intro _)|exact Tz)
   refine WO.does (zy (vs:=byC Y) (hc:=hcY) (hl:=hYl)) ?_;refine WO.makes (ze (cs:=byC Y) rfl (by decide) (vk hYl)) ?_;intro gB;refine WO.appKZ (z:=(byC (List.replicate 32 0))) (m:=1) (l:=j' + 1+1) rfl rfl rfl (xs:=(FF.reverse.take (j' + 1)).flatMap byC) (ys:=byC Y) hR32 r1 Pk.a (Rds.own (m:=32) Hs.a (zz hYl)) h1Y (zM _) rfl (by omega) r2 (by omega) (by decide) (by decide) (fun g1 c1 a1 b1=>?_)
   repeat (first|refine WO.does (zH rfl rfl hdn) ?_|refine Ta ?_|(refine Tm ?_;intro _)|refine Tc ?_|exact Tz)
   rw[hRs];exact WX.metI ⟨j' + 1+1,g1,c1⟩ (hl:=by repeat (first|exact Lle.left'|refine Lle.c ?_|refine Lle.skp ?_)) (hs:=⟨⟨by show j' + 1+1≤n;omega,fun _=>⟨b1,a1⟩⟩,by show n - (j' + 1+1)<n - (j' + 1);omega⟩)
 have hjj:jj=n:=by omega
 rw[hjj] at hjc ⊢;rw[vU (by omega),vA (by omega),show FF.reverse.take n=FF.reverse from List.take_of_length_le (by rw[List.length_reverse];omega)];simp only[List.cons_append,List.nil_append]
 repeat (first|refine Tw ?_|(refine Tm ?_;intro _)|exact Tz)
 refine WC.dF rfl (by omega) ?_
 repeat (first|refine WO.does (zH rfl rfl hsF) ?_|refine WO.does (zH rfl rfl hsF1) ?_|refine WO.does (vj (h:=ks.length - F - 1) rfl rfl (by omega)) ?_|refine Ta ?_|(refine Tm ?_;intro _)|refine Tc ?_|exact Tz)
 refine WO.acallR (hc:=h1) (hR:=fun wx hm=>⟨fun e he=>hm.ok e (by repeat (first|exact he|apply List.mem_cons_of_mem)),RdF.ownO (Hs.sg hm) hn'⟩) (k:=?_)
 repeat (first|refine Tw ?_|(refine Tm ?_;intro _)|exact Tz)
 refine WO.acallR (hc:=h2 g15 c15) (hR:=fun wx hm=>⟨fun e he=>hm.ok e (by repeat (first|exact he|apply List.mem_cons_of_mem)),RdF.ownO (Hs.sg hm) hTl⟩) (k:=?_)
 repeat (first|refine Tw ?_|(refine Tm ?_;intro _)|exact Tz)
 refine WO.acallR (hc:=h3 g18 c18) (hR:=fun wx hm=>⟨fun e he=>hm.ok e (by repeat (first|exact he|apply List.mem_cons_of_mem)),RdF.ownO (Hs.sg hm) (by rw[List.length_set];exact hn')⟩) (k:=?_)
 repeat (first|refine Tw ?_|(refine Tm ?_;intro _)|exact Tz)
 refine WO.acallR (hc:=h4 gR cR) (hR:=fun wx hm=>⟨fun e he=>hm.ok e (by repeat (first|exact he|apply List.mem_cons_of_mem)),RdF.ownO (Hs.sg hm) (by rw[List.length_reverse];exact hn')⟩) (k:=?_)
 repeat (first|refine Tw ?_|(refine Tm ?_;intro _)|exact Tz)
 refine WO.acallR (hc:=h5) (hR:=fun wx hm=>⟨fun e he=>hm.ok e (by repeat (first|exact he|apply List.mem_cons_of_mem)),RdF.ownO (r:=(FF.drop (ks.length - F - 1)).flatMap byC++mkz rF (byC (List.replicate 32 0))) (by rw[← hFspl];exact Hs.sg hm) h5l⟩) (k:=?_)
 repeat (first|refine Ta ?_|(refine Tm ?_;intro _)|refine WO.acall (hc:=hL) (k:=?_)|refine Tc ?_|exact Tz)
 done
end
end Sx
end
end Go.Proofs.YteibfbjpkjkejaaGreatDoor
