/- Part 48 of the proof. -/
import Derived.Test.YtbhblpnjhkddbaaGreatM45
import Derived.Test.YtbhblpnjhkddbaaGreatM46
import Derived.Test.YtbhblpnjhkddbaaGreatM47
set_option linter.unusedSimpArgs false
set_option linter.unusedVariables false
set_option maxHeartbeats 8000000
namespace Go.Proofs.YtbhblpnjhkddbaaGreat
section
open Go Go.RowKit Go.BigFrame
namespace Sx
attribute [local irreducible] DQ DQS WC WO WX wd
abbrev dtC (ep d:Nat) (ps:Value) (x:Nat) (xs:Value):List Value:=[.int .u64 (ep:Int),.int .u8 (d:Int),ps,.int .u64 ((wd 0 x:Nat):Int),.int .u64 ((wd 1 x:Nat):Int),.int .u64 ((wd 2 x:Nat):Int),.int .u64 ((wd 3 x:Nat):Int),xs]
abbrev dtV (ep d:Nat) (ps:Value) (x:Nat) (xs:Value):Value:=.agg #[.int .u64 (ep:Int),.int .u8 (d:Int),ps,.int .u64 ((wd 0 x:Nat):Int),.int .u64 ((wd 1 x:Nat):Int),.int .u64 ((wd 2 x:Nat):Int),.int .u64 ((wd 3 x:Nat):Int),xs]
abbrev spC (z b:Nat):List Value:=[.int .u8 (z:Int),.int .u64 ((wd 0 b:Nat):Int),.int .u64 ((wd 1 b:Nat):Int),.int .u64 ((wd 2 b:Nat):Int),.int .u64 ((wd 3 b:Nat):Int)]
abbrev spV (z b:Nat):Value:=.agg #[.int .u8 (z:Int),.int .u64 ((wd 0 b:Nat):Int),.int .u64 ((wd 1 b:Nat):Int),.int .u64 ((wd 2 b:Nat):Int),.int .u64 ((wd 3 b:Nat):Int)]
abbrev u8C (n:Nat):List Value:=[.int .u8 (n:Int)]
section
variable (p q g h:Nat)
theorem qj (a n:Nat) (ha:a<zc) (hn:n<zc) (hp:p<zc):Fn Tryz.prog 12 [yR p q g h,ze a,ze n] Tr (Is (ze (exN p a n))):=by
 have hE:=vD p q g h a n ha hn hp;rw[show Is (rE (yB p a) (a ^ n%p))=Is (.tuple #[ze (exN p a n),.int .i64 (okE (yB p a))]) from rfl] at hE;generalize exN p a n=r at *;generalize okE (yB p a)=e at *;refine Fn.enter Tryz.func12 rfl rfl rfl ?_;intro w hw
 repeat (first|refine Ta ?_|(refine Tm ?_;intro _)|refine WO.acall (hc:=hE) (k:=?_)|refine Tc ?_|exact Tz)
 done
end
section
variable (p q g h:Nat) (F m:Nat) (pt:Option Addr) (c:Nat) (N:List (Nat × Nat)) (l:List Nat) (ep d:Nat) (ls:List Od) (pl:Option Addr) (cl:Nat)
theorem ry (hp:p<zc) (hq:q<zc) (hg:g<zc) (hh:h<zc) (hN:yp N) (hNl:N.length≤100) (hP:Pri q) (hs:y6 p q g h (F:Int) (m:Int) N=true) (hl:l.length=F+m)
  (k:OpL p q h N l ep d ls) (hlen:F+m≤ls.length) (hle:ls.length≤N.length) :
  Fn Tryz.prog 16 [stV p q g h (F:Int) (m:Int) (.slice pt N.length c),.slice pl ls.length cl] (fun w=>RdF y9 (.slice pt N.length c) N w∧RdF odC (.slice pl ls.length cl) ls w)
   (Ex (fun s=>.tuple #[.slice (some ⟨s 0,0,none⟩) m m,.int .i64 0]) (fun s=>[⟨s 0,24,(osL p q h l m).flatMap zb⟩]) (fun _=>True)):=by
 have hsp:=yb hs;have hB:=k.raise hs hlen (by omega);obtain⟨_,hR⟩:=adA hB hsp.2.1 hsp.2.2.1 (M:=F+m) (by omega) k.ok;have hO:=qu (q:=q) (ks:=rKs N.length (F+m) ls) (fun e=>by have:=hR.kl;rw[e] at this;simp at this;omega) hR.nd hR.lt (by rw[hR.kl];omega);have hkh:gIn p q h=true:=by
  have hs':=hs;unfold y6 at hs';simp only[Bool.and_eq_true] at hs';exact (en hs'.1.2).1
 have e1:=dX (M:=F+m) (m:=m) hP hkh k.n k.z hO (by rw[hR.kl];omega);have e2:=oM hP hO (Nat.le_refl _);refine (rY p q g h pt c N pl cl ls F m hp hq hg hh hN hNl k.ok (by omega) hs hlen hle).weak (fun w hw=>hw) (fun v L hv=>?_);have hv1:=hv.1 hB;unfold oRY at hv1;rw[e1,e2] at hv1
 rcases hv1 with ⟨h0,_⟩|⟨_,g1,h1,h2⟩
 ·exact absurd rfl h0
 ·exact⟨fun _=>g1,h1,h2,trivial⟩
end
def acd (p q h:Nat) (N:List (Nat × Nat)) (X:List Nat) (i:Nat):Bool:=decide (X.getD i 0<q) && decide (exN p h (X.getD i 0)=ky N i)
def dt (p q h:Nat) (N:List (Nat × Nat)) (X:List Nat):Bool:=decide (X.length=N.length) && (List.range N.length).all (acd p q h N X)
def vT (p q g h:Nat) (f sec:Int) (N:List (Nat × Nat)) (l:List Nat) (d x:Nat) (X:List Nat):Bool:=oF p q g h f sec N l && dt p q h N X && rO p q g h f sec N d l x
def dtN:Value:=.tuple #[dlV 0 0 (.slice none 0 0) (.slice none 0 0) (.slice none 0 0) 0 0,.bool false]
def DtP (b:Bool) (P:Value→List Ent→Prop):Value→List Ent→Prop:=fun v L=>(b=true→P v L)∧(b=false→v=dtN)
theorem DtP.no {b:Bool} {P:Value→List Ent→Prop} {L:List Ent} (h:b=false):DtP b P dtN L:=⟨fun e=>(by rw[h] at e;cases e),fun _=>rfl⟩
theorem DtP.ok {b:Bool} {P:Value→List Ent→Prop} {v:Value} {L:List Ent} (h:b=true) (k:P v L):DtP b P v L:=⟨fun _=>k,fun e=>(by rw[h] at e;cases e)⟩
section
variable (p q g h:Nat) (f sec:Int) (pt:Option Addr) (c:Nat) (N:List (Nat × Nat)) (ep d x:Nat) (pz:Option Addr) (cz:Nat) (l:List Nat) (px:Option Addr) (cx:Nat) (X:List Nat)
def dtY (p q g:Nat) (l:List Nat) (N:List (Nat × Nat)) (ep d x:Nat):Value→List Ent→Prop :=
 Ex (fun s=>.tuple #[dlV ep d (.slice (some ⟨s 0,0,none⟩) N.length N.length) (.slice (some ⟨s 1,0,none⟩) N.length N.length) (.slice (some ⟨s 2,0,none⟩) N.length N.length) (dSg p q g l N ep d x N.length).1 (dSg p q g l N ep d x N.length).2,.bool true])
  (fun s=>[⟨s 2,44,(dPs p q g l N ep d x N.length).flatMap pfC⟩,⟨s 1,24,(dYs p q l N N.length).flatMap zb⟩,⟨s 0,24,(dVs p q g l N.length).flatMap zb⟩]) (fun _=>True)
theorem vR (hp:p<zc) (hq:q<zc) (hg:g<zc) (hh:h<zc) (hN:yp N) (hl:∀ a∈l,a<zc) (hX:∀ a∈X,a<zc)
  (hf1 : -9223372036854775808≤f) (hf2:f≤9223372036854775807) (hs1 : -9223372036854775808≤sec) (hs2:sec≤9223372036854775807) (hd:d<256) (hx:x<zc) (hep:ep<18446744073709551616) :
  Fn Tryz.prog 8 [stV p q g h f sec (.slice pt N.length c),dtV ep d (.slice pz l.length cz) x (.slice px X.length cx)]
   (fun w=>RdF y9 (.slice pt N.length c) N w∧RdF zb (.slice pz l.length cz) l w∧RdF zb (.slice px X.length cx) X w) (DtP (vT p q g h f sec N l d x X) (dtY p q g l N ep d x)):=by
 have hF:=oq p q g h f sec pt c N pz cz l hp hq hg hh hN hl hf1 hf2 hs1 hs2;unfold vT;cases e1:oF p q g h f sec N l with
 | false =>
  rw[e1] at hF;refine Fn.enter Tryz.func8 rfl rfl rfl ?_;intro w hw;obtain⟨wN,wl,wX⟩:=hw
  repeat (first|refine Ta ?_|(refine Tm ?_;intro _)|refine WO.acallR (hc:=hF) (hR:=fun w1 hm=>⟨wN.mod hm.mod,wl.mod hm.mod⟩) (k:=?_)|refine Tc ?_|exact Tz)
  exact WX.ret2 rfl (by exact y8) (by exact zt rfl) [] Lle.nil (DtP.no rfl)
 | true =>
 rw[e1] at hF;obtain⟨hP,hS,hlen,hall,hNl,hln⟩:=yZ e1;obtain⟨hn1,hn7,hnq,hf0,hsec1,hfs,hmg,hmh⟩:=yb hS
 by_cases e2:X.length=N.length
 case neg =>
  refine Fn.enter Tryz.func8 rfl rfl rfl ?_;intro w hw;obtain⟨wN,wl,wX⟩:=hw
  repeat (first|refine WO.does (z6 rfl rfl (by omega)) ?_|refine Ta ?_|(refine Tm ?_;intro _)|refine WO.acallR (hc:=hF) (hR:=fun w1 hm=>⟨wN.mod hm.mod,wl.mod hm.mod⟩) (k:=?_)|refine Tc ?_|exact Tz)
  exact WX.ret2 rfl (by exact y8) (by exact zt rfl) [] Lle.nil (DtP.no (by unfold dt;rw[decide_eq_false e2];rfl))
 unfold dt;rw[decide_eq_true e2,Bool.true_and,Bool.true_and];refine Fn.enter Tryz.func8 rfl rfl rfl ?_;intro w hw;obtain⟨wN,wl,wX⟩:=hw
 repeat (first|refine WO.does (zm rfl rfl (by omega)) ?_|refine Ta ?_|(refine Tm ?_;intro _)|refine WO.acallR (hc:=hF) (hR:=fun w1 hm=>⟨wN.mod hm.mod,wl.mod hm.mod⟩) (k:=?_)|refine Tc ?_|exact Tz)
 rename_i gS gZ gR
 refine WC.loopI (σ:=Nat) (fun i=>i≤N.length∧∀ j,j<i→acd p q h N X j=true) (fun i=>[(2,Sx.pt gS),(3,Sx.pt gZ),(4,Sx.pt gR),(5,.bool false),(6,.int .i64 (i:Int))])
  (fun _=>[⟨gS,29,stC p q g h f sec (.slice pt N.length c)⟩,⟨gZ,32,dtC ep d (.slice pz l.length cz) x (.slice px X.length cx)⟩,⟨gR,37,dlC 0 0 (.slice none 0 0) (.slice none 0 0) (.slice none 0 0) 0 0⟩]) (fun i=>N.length - i) 0 (fun i hi=>?_) ⟨Nat.zero_le _,fun j hj=>by omega⟩
 try dsimp only at hi ⊢
 obtain⟨hi,ha⟩:=hi
 by_cases hlt:i<N.length
 ·obtain⟨k,hk⟩ : ∃ k,N[i]?=some k:=⟨_,List.getElem?_eq_getElem hlt⟩;have hltx:i<X.length:=by omega
  obtain⟨y,hy⟩ : ∃ y,X[i]?=some y:=⟨_,List.getElem?_eq_getElem hltx⟩;have hkb:=hN k (List.mem_of_getElem? hk);have hyb:=hX y (List.mem_of_getElem? hy);have hyg:X.getD i 0=y:=by rw[List.getD_eq_getElem?_getD,hy];rfl
  have hadd2:IntKind.i64.wrap ((i:Int)+1)=((i+1:Nat):Int):=zn (by omega) (by omega) (by omega);have hC:=ma y q hyb hq;have hPw:=qj p q g h h y hh hyb hp;have hxl:=rc (p:=p) (a:=h) (n:=y) hp;have hso:acd p q h N X i=(decide (y<q) && decide (exN p h y=k.2)):=by unfold acd;rw[hyg,az hk]
  generalize exN p h y=ex at *;obtain⟨bX,oX,rfl,_,hsX⟩:=id wX |>.get hy
  have hcy:cut (X.flatMap zb) (oX+i*4 - oX) 4=zb y:=by rw[Nat.add_sub_cancel_left];exact zA zu hy
  repeat (first|refine Tw ?_|(refine Tm ?_;intro _)|exact Tz)
  refine WC.dT rfl (by omega) ?_
  repeat (first|refine Tw ?_|(refine Tm ?_;intro _)|exact Tz)
  by_cases n3:y<q
  case neg =>
   refine WC.adraw 30 (k:=?_)
   iterate 30 (first|refine DQ.does (fun s _=>za (o':=oX+i*4) rfl rfl hltx rfl) Dp.const ?_|refine DQ.does (fun s _=>zj (vs:=zb y) (hs:=hsX) (hle:=Nat.le_add_right _ _) (hc:=hcy)) Dp.const ?_|refine DQ.does (fun s _=>rL rfl rfl (om.2 n3)) Dp.const ?_|refine Da ?_|refine DQ.acall (hc:=hC) (k:=?_)|refine Dc ?_)
   refine DQ.anil (k:=?_);intro sx _
   repeat (first|refine Tw ?_|(refine Tm ?_;intro _)|exact Tz)
   exact WX.ret2 rfl (by exact y8) (by exact zt rfl) [] Lle.nil (DtP.no (by
    rw[List.all_eq_false.2 ⟨i,List.mem_range.2 hlt,by rw[hso,decide_eq_false n3];simp⟩];rfl))
  have hge:¬ 0≤uH y q:=fun h'=>om.1 h' n3;obtain⟨b,o,rfl,_,hs⟩:=id wN |>.get hk
  have hcx:cut (N.flatMap y9) (i*8+4) 4=zb k.2:=eT (zA tb hk) (j:=4) (m:=4) (us:=zb k.2) rfl (by decide);obtain⟨r,hr⟩ : ∃ r,decide (ex≠k.2)=r:=⟨_,rfl⟩;refine WC.adraw 30 (k:=?_)
  iterate 3 (first|refine Da ?_|refine Dc ?_)
  refine DQ.does (fun s _=>za (o':=oX+i*4) rfl rfl hltx rfl) Dp.const ?_;refine DQ.does (fun s _=>zj (vs:=zb y) (hs:=hsX) (hle:=Nat.le_add_right _ _) (hc:=hcy)) Dp.const ?_
  iterate 3 (first|refine Da ?_|refine Dc ?_)
  refine DQ.acall (hc:=hC) (k:=?_);refine DQ.does (fun s _=>uj rfl rfl hge) Dp.const ?_
  iterate 9 (first|refine Da ?_|refine Dc ?_)
  refine DQ.does (fun s _=>za (o':=oX+i*4) rfl rfl hltx rfl) Dp.const ?_;refine DQ.does (fun s _=>zj (vs:=zb y) (hs:=hsX) (hle:=Nat.le_add_right _ _) (hc:=hcy)) Dp.const ?_;refine DQ.acall (hc:=hPw) (k:=?_)
  iterate 3 (first|refine Da ?_|refine Dc ?_)
  refine DQ.does (fun s _=>za (o':=o+i*8) rfl rfl hlt rfl) Dp.const ?_;(first|refine Da ?_|refine Dc ?_);refine DQ.does (fun s _=>zj (vs:=zb k.2) (hs:=hs) (hle:=by omega) (hc:=by rw[show o+i*8+4 - o=i*8+4 by omega];exact hcx)) Dp.const ?_;refine DQ.does (fun s _=>uk rfl rfl hxl hkb.2 hr) Dp.const ?_;(first|refine Da ?_|refine Dc ?_);refine DQ.anil (k:=?_);intro sx _;cases r with
  | true =>
   have hne:=of_decide_eq_true hr
   repeat (first|refine Tw ?_|(refine Tm ?_;intro _)|exact Tz)
   exact WX.ret2 rfl (by exact y8) (by exact zt rfl) [] Lle.nil (DtP.no (by
    rw[List.all_eq_false.2 ⟨i,List.mem_range.2 hlt,by rw[hso,decide_eq_false hne];simp⟩];rfl))
  | false =>
   have heq:=Classical.not_not.1 (of_decide_eq_false hr)
   repeat (first|refine WO.does (zf rfl rfl hadd2) ?_|refine Ta ?_|(refine Tm ?_;intro _)|refine Tc ?_|exact Tz)
   exact WX.metI (i+1) (hs:=⟨⟨by show i+1≤N.length;omega,fun j hj=>by
    rcases Nat.lt_or_ge j i with h'|h'
    ·exact ha j h'
    ·rw[show j=i by omega,hso,decide_eq_true n3,decide_eq_true heq];rfl⟩,by show N.length - (i+1)<N.length - i;omega⟩)
 ·have hi2:i=N.length:=by omega
  subst hi2;rw[List.all_eq_true.2 (fun j hj=>ha j (List.mem_range.1 hj)),Bool.true_and];cases e3:rO p q g h f sec N d l x with
  | false =>
   have hD:=aa3 p q g h f sec pt c N ep d x pz cz l hp hq hg hh hN hNl hl hln hf1 hf2 hs1 hs2 hd hx e3
   repeat (first|refine Tw ?_|(refine Tm ?_;intro _)|exact Tz)
   refine WC.dF rfl (by omega) ?_
   repeat (first|refine WO.does (yV rfl rfl (by decide)) ?_|refine Ta ?_|(refine Tm ?_;intro _)|refine WO.acallR (hc:=hD) (hR:=fun w1 hm=>⟨wN.mod hm.mod,wl.mod hm.mod⟩) (k:=?_)|refine Tc ?_|exact Tz)
   exact WX.ret2 rfl (by exact y8) (by exact zt rfl) [] Lle.nil (DtP.no rfl)
  | true =>
   have hD:=m4 p q g h f sec pt c N ep d x pz cz l hp hq hg hh hN hNl hl hln hf1 hf2 hs1 hs2 hd hx hep e3;unfold dtY;generalize dSg p q g l N ep d x N.length=sg at *;generalize dVs p q g l N.length=Vs at *;generalize dYs p q l N N.length=Ys at *;generalize dPs p q g l N ep d x N.length=Ps at *
   repeat (first|refine Tw ?_|(refine Tm ?_;intro _)|exact Tz)
   refine WC.dF rfl (by omega) ?_
   repeat (first|refine Tw ?_|(refine Tm ?_;intro _)|exact Tz)
   refine WO.acallX (hc:=hD) (hR:=fun w1 hm=>⟨wN.mod hm.mod,wl.mod hm.mod⟩) (k:=fun s1 hs1=>?_);clear hs1;generalize s1 0=gV;generalize s1 1=gY;generalize s1 2=gP;clear s1;simp only[List.cons_append,List.nil_append]
   repeat (first|refine WO.does (yx rfl rfl rfl) ?_|refine Ta ?_|(refine Tm ?_;intro _)|refine Tc ?_|exact Tz)
   exact WX.ret2 rfl (by exact y8) (by exact zt rfl) [⟨gP,44,Ps.flatMap pfC⟩,⟨gY,24,Ys.flatMap zb⟩,⟨gV,24,Vs.flatMap zb⟩] (by repeat (first|exact Lle.nil|refine Lle.c ?_)) (DtP.ok rfl ⟨fun i=>if i=0 then gV else if i=1 then gY else gP,rfl,rfl,trivial⟩)
end
end Sx
end
section
open Go Go.RowKit Go.BigFrame
namespace Sx
theorem bD:[1,2,3].flatMap zb=[.int .u64 1,.int .u64 ((wd 1 0:Nat):Int),.int .u64 ((wd 2 0:Nat):Int),.int .u64 ((wd 3 0:Nat):Int)]++[.int .u64 2,.int .u64 ((wd 1 0:Nat):Int),.int .u64 ((wd 2 0:Nat):Int),.int .u64 ((wd 3 0:Nat):Int)]++[.int .u64 3,.int .u64 ((wd 1 0:Nat):Int),.int .u64 ((wd 2 0:Nat):Int),.int .u64 ((wd 3 0:Nat):Int)]:=by kernel_rfl
attribute [local irreducible] wd DQ DQS WO WC WX
theorem pW {p q g h:Nat} {f sec:Int} {N:List (Nat × Nat)} {ep d n x:Nat} (l:List Nat) (k:ru p q g h f sec N n x) (hp:p<zc) (hq:q<zc) (hep:ep<18446744073709551616) (hd:d<256) (hn:n<256) :
  ∃ z c s,opR p q g h f sec N ep d n x (dYs p q l N N.length)=.tuple #[.agg (odC ⟨ep,d,n,z,c,s⟩).toArray,.int .i64 0]∧z=h ^ (zK l n%q)%p∧abf p q g h f sec N ep d (dYs p q l N N.length) ep d n z c s=true∧mT ⟨ep,d,n,z,c,s⟩:=by
 obtain⟨h1,h2,h3⟩:=pB (ep:=ep) (d:=d) (l:=l) k;have hk:=k.more.1;obtain⟨⟨hp1,_,_⟩,_⟩:=yg hk;have hq1:=k.pri.1;have ho:=aP (x:=x) (y:=(dYs p q l N N.length).getD (n - 1) 0) (h:=h) hp (by omega) hq (by omega) hep hd hn;exact⟨_,_,_,h1,h2,h3,ho⟩
theorem RsP.weakN {b:Bool} {P:Value→List Ent→Prop} {v:Value} {L:List Ent} (h:RsP b P v L) (hb:b=false):Is acY v L:=h.2 hb
theorem ii (p q g h x s1 s3 s4:Nat) (F m:Nat) (N:List (Nat × Nat)) (XL:List Value) (P:List Nat)
  (hKn:Fn Tryz.prog 23 [] Tr (Ex (fun s=>.tuple #[stV p q g h (F:Int) (m:Int) (.slice (some ⟨s 0,0,none⟩) 4 (s 1)),.slice (some ⟨s 2,0,none⟩) 4 (s 3)])
   (fun s=>[⟨s 2,76,XL++mkz (s 3 - 4) (sf 0 0)⟩,⟨s 0,72,N.flatMap y9++mkz (s 1 - 4) (sf 0 0)⟩]) (fun s=>4≤s 1∧4≤s 3)))
  (hNl:N.length=4) (hpl:P.length=3) (hFm:F+m=3) (hm2:m=2) (hp:p<zc) (hq:q<zc) (hh:h<zc) (hg:g<zc) (hx:x<zc) (hNo:yp N) (hPo:∀ a∈P,a<zc) (hP:Pri q)
  (hc0:∀ c,cut (XL++mkz (c - 4) (sf 0 0)) 0 4=zb x) (hc1:∀ c,cut (XL++mkz (c - 4) (sf 0 0)) 4 4=zb s1) (hc3:∀ c,cut (XL++mkz (c - 4) (sf 0 0)) 20 4=zb s3) (hc4:∀ c,cut (XL++mkz (c - 4) (sf 0 0)) 28 4=zb s4)
  (e3:P.flatMap zb=[.int .u64 1,.int .u64 ((wd 1 0:Nat):Int),.int .u64 ((wd 2 0:Nat):Int),.int .u64 ((wd 3 0:Nat):Int)]++[.int .u64 2,.int .u64 ((wd 1 0:Nat):Int),.int .u64 ((wd 2 0:Nat):Int),.int .u64 ((wd 3 0:Nat):Int)]++[.int .u64 3,.int .u64 ((wd 1 0:Nat):Int),.int .u64 ((wd 2 0:Nat):Int),.int .u64 ((wd 3 0:Nat):Int)])
  (kset:y6 p q g h (F:Int) (m:Int) N=true) (kall:uD q P=true) (kdeal:rO p q g h (F:Int) (m:Int) N 1 P x=true)
  (k1:ru p q g h (F:Int) (m:Int) N 1 s1) (k3:ru p q g h (F:Int) (m:Int) N 3 s3) (k4:ru p q g h (F:Int) (m:Int) N 4 s4) :
  Fn Tryz.prog 9 [] Tr (Is (.bool true)):=by
 have hF3:F≤3:=by omega
 have hDY:=fun gN cN gP=>m4 p q g h (F:Int) (m:Int) (some ⟨gN,0,none⟩) cN N 7 1 x (some ⟨gP,0,none⟩) 3 P hp hq hg hh hNo (by omega) hPo (by omega) (by omega) (by omega) (by omega) (by omega) (by decide) hx (by decide) kdeal;obtain⟨z1,u1,t1,o1,ez1,c1,ok1⟩:=pW (ep:=7) (d:=1) P k1 hp hq (by decide) (by decide) (by decide);obtain⟨z3,u3,t3,o3,ez3,c3,ok3⟩:=pW (ep:=7) (d:=1) P k3 hp hq (by decide) (by decide) (by decide);obtain⟨z4,u4,t4,o4,ez4,c4,ok4⟩:=pW (ep:=7) (d:=1) P k4 hp hq (by decide) (by decide) (by decide);have hdY:=qZ (q:=q) (l:=P) (N:=N) (n:=N.length) hp;have hYl:(dYs p q P N N.length).length=N.length:=by simp[dYs]
 have o9:opR p q g h (F:Int) (m:Int) N 7 1 9 s1 (dYs p q P N N.length)=opE 1:=by
  unfold opR;rw[if_neg];unfold opA ui;rw[hNl];simp
 have b1:=Nat.lt_trans k1.lt hq;have b3:=Nat.lt_trans k3.lt hq;have b4:=Nat.lt_trans k4.lt hq;have hO:=fun (n s:Nat) (hn:n<256) (hs:s<zc) gN cN gY sC sS pV pP=>sG p q g h (F:Int) (m:Int) (some ⟨gN,0,none⟩) cN N 7 1 n s (some ⟨gY,0,none⟩) 4 (dYs p q P N N.length) sC sS pV pP hp hq hg hh hNo (by omega) (by omega) (by omega) (by omega) (by omega) hn hs hdY (by decide) (by decide);have hO1:=hO 1 s1 (by decide) b1;have hO3:=hO 3 s3 (by decide) b3;have hO4:=hO 4 s4 (by decide) b4;have hO9:=hO 9 s1 (by decide) b1;rw[o1] at hO1;rw[o3] at hO3;rw[o4] at hO4;rw[o9] at hO9;have hC:=fun (n z u t:Nat) (ok:mT ⟨7,1,n,z,u,t⟩) gN cN gY sC sS pV pP=>ka p q g h (F:Int) (m:Int) (some ⟨gN,0,none⟩) cN N 7 1 (some ⟨gY,0,none⟩) 4 (dYs p q P N N.length) sC sS 7 1 n z u t pV pP hp hq hg hh hNo (by omega) (by omega) (by omega) (by omega) (by omega) (by decide) (by decide) hdY ok.e ok.d ok.n ok.z ok.c ok.s;have hC1:=hC 1 z1 u1 t1 ok1;have hC4:=hC 4 z4 u4 t4 ok4;rw[c1] at hC1;rw[c4] at hC4;have hls:OpL p q h N P 7 1 [⟨7,1,4,z4,u4,t4⟩,⟨7,1,1,z1,u1,t1⟩,⟨7,1,3,z3,u3,t3⟩]:=by
  constructor
  ·intro o ho;simp only[List.mem_cons,List.not_mem_nil,or_false] at ho;rcases ho with rfl|rfl|rfl<;>assumption
  ·intro o ho;simp only[List.mem_cons,List.not_mem_nil,or_false] at ho;rcases ho with rfl|rfl|rfl<;>rfl
  ·intro o ho;simp only[List.mem_cons,List.not_mem_nil,or_false] at ho;rcases ho with rfl|rfl|rfl<;>rfl
  ·intro o ho;rw[hNl];simp only[List.mem_cons,List.not_mem_nil,or_false] at ho;rcases ho with rfl|rfl|rfl<;>exact⟨by dsimp only;decide,by dsimp only;decide⟩
  ·intro o ho;simp only[List.mem_cons,List.not_mem_nil,or_false] at ho;rcases ho with rfl|rfl|rfl<;>assumption
  ·show [4,1,3].Nodup;decide
 have hR3:=fun gN cN gL=>ry p q g h F m (some ⟨gN,0,none⟩) cN N P 7 1 _ (some ⟨gL,0,none⟩) 3 hp hq hg hh hNo (by omega) hP kset (by omega) hls (by show F+m≤3;omega) (by show 3≤N.length;omega);have hR2:=fun gN cN gL=>nv p q g h (some ⟨gN,0,none⟩) cN N (some ⟨gL,0,none⟩) 2 [⟨7,1,4,z4,u4,t4⟩,⟨7,1,1,z1,u1,t1⟩] F m hp hq hg hh hNo (by omega) (by show 2≤100;decide) kset (.inl (by show 2<F+m;omega));have hR1:=fun gN cN gL=>(rY p q g h (some ⟨gN,0,none⟩) cN N (some ⟨gL,0,none⟩) 3 [⟨7,1,4,z4,u4,t4⟩,⟨7,1,4,z4,u4,t4⟩,⟨7,1,4,z4,u4,t4⟩] F m hp hq hg hh hNo (by omega) (by
  intro o ho;simp only[List.mem_cons,List.not_mem_nil,or_false] at ho;rcases ho with rfl|rfl|rfl<;>assumption) (by show 3≤100;decide) kset (by show F+m≤3;omega) (by show 3≤N.length;omega)).weak (fun w hw=>hw) (fun v L hv=>hv.weakN (ir (k:=0) (i:=1) rfl rfl (by decide) rfl))
 have hSh:=fun gN cN gP=>tF p q g h (F:Int) (some ⟨gN,0,none⟩) cN N (some ⟨gP,0,none⟩) 3 P m hp hq hg hh hNo (by omega) hPo (by omega) (by omega) (by omega) (by omega) (by unfold rX;rw[kset,kall,decide_eq_true (show ((P.length:Nat):Int)=(F:Int)+(m:Int) by omega)];rfl);have hSN:=fun gA gB=>sy (osL p q h P m) (some ⟨gA,0,none⟩) (some ⟨gB,0,none⟩) m m (by simp[osL];omega);have hosl:(osL p q h P m).length=m:=by simp[osL]
 have hY4:(dYs p q P N 4).length=4:=by simp[dYs]
 clear hYl;simp only[hY4,hNl,hpl,hosl] at hDY hO1 hO3 hO4 hO9 hC1 hC4 hR3 hR2 hR1 hSh hSN;generalize osL p q h P m=OS at *;generalize dSg p q g P N 7 1 x 4=sg at *;generalize dVs p q g P 4=Vs at *;generalize dYs p q P N 4=Ys at *;generalize dPs p q g P N 7 1 x 4=Ps at *;generalize hP3:P.flatMap zb=P3 at *;subst hm2;clear o1 o3 o4 o9 c1 c3 c4 hO hC hls ez1 ez3 ez4 k1 k3 k4 kdeal;refine Fn.enter Tryz.func9 rfl rfl rfl ?_;intro w hw
 repeat (first|refine Tw ?_|(refine Tm ?_;intro _)|exact Tz)
 refine WO.acallX (hc:=hKn) (hR:=fun _ _=>trivial) (k:=fun yy hyy=>?_);clear hyy;generalize yy 0=gN;generalize yy 1=cN;generalize yy 2=gX;generalize yy 3=cX;clear yy;simp only[List.cons_append,List.nil_append]
 repeat (first|refine Ta ?_|(refine Tm ?_;intro _)|(refine WO.makes (zd (cs:=P3) rfl (by decide) (by rw[e3];first|done|rfl)) ?_;intro gP)|refine Tc ?_|exact Tz)
 replace hc0:=hc0 cX;replace hc1:=hc1 cX;replace hc3:=hc3 cX;replace hc4:=hc4 cX;generalize hXB:XL++mkz (cX - 4) (sf 0 0)=XB at *;generalize hNB:mkz (cN - 4) (sf 0 0)=NB at *;refine WC.adrawF [9] 11 (k:=?_)
 iterate 3 (first|refine Da ?_|refine Dc ?_)
 refine DQ.does (fun s _=>za (o':=0) rfl rfl (by decide) rfl) Dp.const ?_;(first|refine Da ?_|refine Dc ?_);refine DQ.does (fun s _=>zx (vs:=zb x) (hc:=hc0)) Dp.const ?_;refine DQ.callsE (fs:=fun _=>[]) (cs:=fun _=>[]) (R:=fun _ w=>RdF y9 (.slice (some ⟨gN,0,none⟩) 4 cN) N w∧RdF zb (.slice (some ⟨gP,0,none⟩) 3 3) P w) (vf:=fun _ s=>.tuple #[dlV 7 1 (.slice (some ⟨s 0,0,none⟩) 4 4) (.slice (some ⟨s 1,0,none⟩) 4 4) (.slice (some ⟨s 2,0,none⟩) 4 4) sg.1 sg.2,.int .i64 0]) (Nf:=fun _ s=>[⟨s 2,44,Ps.flatMap pfC⟩,⟨s 1,24,Ys.flatMap zb⟩,⟨s 0,24,Vs.flatMap zb⟩]) (S:=fun _ _=>True) (fun _=>[]) (fun _=>.nil) (fun _=>⟨fun _=>0,trivial⟩) (fun _ _=>hDY gN cN gP) (fun _=>rfl) (fun _=>rfl) (fun _=>by simp) (fun _ _ w hm=>⟨RdF.ownO (r:=NB) (Hs.sg hm) hNl,RdF.ownM (by have:=Hs.sg (g:=gP) (t:=24) (cs:=P3) hm;rwa [← hP3] at this) hpl⟩) Dp.const Dp.const Dp.const ?_
 try dsimp only[List.map_cons,List.map_nil,List.cons_append,List.nil_append,List.append_nil]
 repeat (first|refine Da ?_|refine Df ?_)
 refine DQ.anil (k:=?_);intro sx _;generalize sx 6 0=gV;generalize sx 6 1=gY;generalize sx 6 2=gQ
 repeat (first|refine Tw ?_|(refine Tm ?_;intro _)|exact Tz)
 refine WC.adrawF [9] 11 (k:=?_)
 iterate 3 (first|refine Da ?_|refine Dc ?_)
 refine DQ.does (fun s _=>za (o':=24) rfl rfl (by decide) rfl) Dp.const ?_;(first|refine Da ?_|refine Dc ?_);refine DQ.does (fun s _=>zx (vs:=zb s4) (hc:=hc4)) Dp.const ?_;refine DQ.acallM (hc:=hO4 gN cN gY sg.1 sg.2 _ _) (hR:=fun w1 hm=>⟨RdF.rdK (RdF.ownO (r:=NB) (Hs.sg hm) hNl),RdF.ownM (Hs.sg hm) hY4⟩) (k:=?_)
 repeat (first|refine Da ?_|refine Df ?_)
 refine DQ.anil (k:=?_);intro sx _
 repeat (first|refine Tw ?_|(refine Tm ?_;intro _)|exact Tz)
 refine WC.adrawF [9] 11 (k:=?_)
 iterate 3 (first|refine Da ?_|refine Dc ?_)
 refine DQ.does (fun s _=>za (o':=0) rfl rfl (by decide) rfl) Dp.const ?_;(first|refine Da ?_|refine Dc ?_);refine DQ.does (fun s _=>zx (vs:=zb s1) (hc:=hc1)) Dp.const ?_;refine DQ.acallM (hc:=hO1 gN cN gY sg.1 sg.2 _ _) (hR:=fun w1 hm=>⟨RdF.rdK (RdF.ownO (r:=NB) (Hs.sg hm) hNl),RdF.ownM (Hs.sg hm) hY4⟩) (k:=?_)
 repeat (first|refine Da ?_|refine Df ?_)
 refine DQ.anil (k:=?_);intro sx _
 repeat (first|refine Tw ?_|(refine Tm ?_;intro _)|exact Tz)
 refine WC.adrawF [9] 11 (k:=?_)
 iterate 3 (first|refine Da ?_|refine Dc ?_)
 refine DQ.does (fun s _=>za (o':=16) rfl rfl (by decide) rfl) Dp.const ?_;(first|refine Da ?_|refine Dc ?_);refine DQ.does (fun s _=>zx (vs:=zb s3) (hc:=hc3)) Dp.const ?_;refine DQ.acallM (hc:=hO3 gN cN gY sg.1 sg.2 _ _) (hR:=fun w1 hm=>⟨RdF.rdK (RdF.ownO (r:=NB) (Hs.sg hm) hNl),RdF.ownM (Hs.sg hm) hY4⟩) (k:=?_)
 repeat (first|refine Da ?_|refine Df ?_)
 refine DQ.anil (k:=?_);intro sx _
 repeat (first|refine Tw ?_|(refine Tm ?_;intro _)|exact Tz)
 refine WC.adrawF [9] 11 (k:=?_)
 iterate 3 (first|refine Da ?_|refine Dc ?_)
 refine DQ.does (fun s _=>za (o':=0) rfl rfl (by decide) rfl) Dp.const ?_;(first|refine Da ?_|refine Dc ?_);refine DQ.does (fun s _=>zx (vs:=zb s1) (hc:=hc1)) Dp.const ?_;refine DQ.acallM (hc:=hO9 gN cN gY sg.1 sg.2 _ _) (hR:=fun w1 hm=>⟨RdF.rdK (RdF.ownO (r:=NB) (Hs.sg hm) hNl),RdF.ownM (Hs.sg hm) hY4⟩) (k:=?_)
 repeat (first|refine Da ?_|refine Df ?_)
 refine DQ.anil (k:=?_);intro sx _
 repeat (first|refine Tw ?_|(refine Tm ?_;intro _)|exact Tz)
 have hl3:[(⟨7,1,4,z4,u4,t4⟩ : Od),⟨7,1,1,z1,u1,t1⟩,⟨7,1,3,z3,u3,t3⟩].length=3:=rfl;have hl2:[(⟨7,1,4,z4,u4,t4⟩ : Od),⟨7,1,1,z1,u1,t1⟩].length=2:=rfl;have hl1:[(⟨7,1,4,z4,u4,t4⟩ : Od),⟨7,1,4,z4,u4,t4⟩,⟨7,1,4,z4,u4,t4⟩].length=3:=rfl
 repeat (first|refine Ta ?_|(refine Tm ?_;intro _)|(refine WO.makes (zd (cs:=[(⟨7,1,4,z4,u4,t4⟩ : Od),⟨7,1,1,z1,u1,t1⟩,⟨7,1,3,z3,u3,t3⟩].flatMap odC) rfl (by decide) rfl) ?_;intro gL3)|refine Tc ?_|exact Tz)
 refine WO.acallX (hc:=hR3 gN cN gL3) (hR:=fun w1 hm=>⟨RdF.ownO (r:=NB) (Hs.sg hm) hNl,RdF.ownM (Hs.sg hm) hl3⟩) (k:=fun yy hyy=>?_);clear hyy;generalize yy 0=gRa;clear yy;simp only[List.cons_append,List.nil_append]
 repeat (first|refine Tw ?_|(refine Tm ?_;intro _)|exact Tz)
 refine WO.acallX (hc:=hSh gN cN gP) (hR:=fun w1 hm=>⟨RdF.ownO (r:=NB) (Hs.sg hm) hNl,RdF.ownM (by have:=Hs.sg (g:=gP) (t:=24) (cs:=P3) hm;rwa [← hP3] at this) hpl⟩) (k:=fun yy hyy=>?_);clear hyy;generalize yy 0=gSh;clear yy;simp only[List.cons_append,List.nil_append]
 repeat (first|refine Ta ?_|(refine Tm ?_;intro _)|(refine WO.makes (zd (cs:=[(⟨7,1,4,z4,u4,t4⟩ : Od),⟨7,1,1,z1,u1,t1⟩].flatMap odC) rfl (by decide) rfl) ?_;intro gL2)|refine Tc ?_|exact Tz)
 refine WO.acallR (hc:=hR2 gN cN gL2) (hR:=fun w1 hm=>⟨RdF.ownO (r:=NB) (Hs.sg hm) hNl,RdF.ownM (Hs.sg hm) hl2⟩) (k:=?_)
 repeat (first|refine Ta ?_|(refine Tm ?_;intro _)|(refine WO.makes (zd (cs:=[(⟨7,1,4,z4,u4,t4⟩ : Od),⟨7,1,4,z4,u4,t4⟩,⟨7,1,4,z4,u4,t4⟩].flatMap odC) rfl (by decide) rfl) ?_;intro gL1)|refine Tc ?_|exact Tz)
 refine WO.acallR (hc:=hR1 gN cN gL1) (hR:=fun w1 hm=>⟨RdF.ownO (r:=NB) (Hs.sg hm) hNl,RdF.ownM (Hs.sg hm) hl1⟩) (k:=?_)
 repeat (first|refine WO.does (yx rfl rfl rfl) ?_|refine Ta ?_|(refine Tm ?_;intro _)|refine Tc ?_|exact Tz)
 refine WO.acallR (hc:=hC4 gN cN gY sg.1 sg.2 _ _) (hR:=fun w1 hm=>⟨RdF.rdK (RdF.ownO (r:=NB) (Hs.sg hm) hNl),RdF.ownM (Hs.sg hm) hY4⟩) (k:=?_)
 repeat (first|refine Tw ?_|(refine Tm ?_;intro _)|exact Tz)
 refine WO.acallR (hc:=hC1 gN cN gY sg.1 sg.2 _ _) (hR:=fun w1 hm=>⟨RdF.rdK (RdF.ownO (r:=NB) (Hs.sg hm) hNl),RdF.ownM (Hs.sg hm) hY4⟩) (k:=?_)
 repeat (first|refine WO.does (yx rfl rfl rfl) ?_|refine Ta ?_|(refine Tm ?_;intro _)|refine Tc ?_|exact Tz)
 refine WO.acallR (hc:=hSN gRa gSh) (hR:=fun w1 hm=>⟨RdF.ownM (Hs.sg hm) hosl,RdF.ownM (Hs.sg hm) hosl⟩) (k:=?_)
 repeat (first|refine WO.does (yx rfl rfl rfl) ?_|refine Ta ?_|(refine Tm ?_;intro _)|refine Tc ?_|exact Tz)
 done
theorem aag:yp knN:=by
 intro k hk;simp only[knN,List.mem_cons,List.not_mem_nil,or_false] at hk
 rcases hk with rfl|rfl|rfl|rfl<;>exact⟨nR,nR⟩
theorem aaq:∀ a∈[1,2,3],a<zc:=by
 intro a ha;simp only[List.mem_cons,List.not_mem_nil,or_false] at ha
 rcases ha with rfl|rfl|rfl<;>exact nR
theorem mV {n x:Nat} (h1:ui n knN=true) (h2:x<11) (h3:9 ^ x%23=shK knN n):ru 23 11 4 9 ((1:Nat):Int) ((2:Nat):Int) knN n x:=⟨acR,aW,h1,h2,h3⟩
theorem tM:Fn Tryz.prog 9 [] Tr (Is (.bool true)) :=
 ii 23 11 4 9 4 5 7 8 1 2 knN (knS.flatMap y9) [1,2,3] fE rfl rfl rfl rfl nR nR nR nR nR aag aaq acR (fun _=>rfl) (fun _=>rfl) (fun _=>rfl) (fun _=>rfl) bD aW (by decide) abx
  (mV (by decide) (by decide) (by decide)) (mV (by decide) (by decide) (by decide)) (mV (by decide) (by decide) (by decide))
end Sx
end
section
open Go Go.RowKit Go.BigFrame
namespace Sx
attribute [local irreducible] DQ DQS WC WO WX wd
theorem vl {p q g h:Nat} {f sec:Int} {N:List (Nat × Nat)} {l X:List Nat} {d x:Nat} (hB:vT p q g h f sec N l d x X=true) :
  oF p q g h f sec N l=true∧X.length=N.length∧(∀ i,i<N.length→ru p q g h f sec N (i+1) (X.getD i 0))∧rO p q g h f sec N d l x=true:=by
 unfold vT dt at hB;simp only[Bool.and_eq_true,decide_eq_true_eq] at hB;obtain⟨⟨h1,h2,h3⟩,h4⟩:=hB;obtain⟨hP,hS,hlen,hall,hNl,hln⟩:=yZ h1;refine⟨h1,h2,fun i hi=>?_,h4⟩;have hs:=List.all_eq_true.1 h3 i (List.mem_range.2 hi);unfold acd at hs;simp only[Bool.and_eq_true,decide_eq_true_eq] at hs;have hk:kB p q h=true:=by
  have hS':=hS;unfold y6 at hS';simp only[Bool.and_eq_true] at hS';exact hS'.1.2
 exact⟨hP,hS,by unfold ui;simp;omega,hs.1,by rw[← uK (en hk).1];exact hs.2⟩
section
variable (p q g h:Nat) (f sec:Int) (pt:Option Addr) (c:Nat) (N:List (Nat × Nat)) (ep d x:Nat) (pz:Option Addr) (cz:Nat) (l:List Nat) (px:Option Addr) (cx:Nat) (X:List Nat) (y:Nat)
theorem dk (hA:Fn Tryz.prog 9 [] Tr (Is (.bool true))) (hp:p<zc) (hq:q<zc) (hg:g<zc) (hh:h<zc) (hN:yp N) (hl:∀ a∈l,a<zc) (hX:∀ a∈X,a<zc) (hy:y<zc)
  (hf1 : -9223372036854775808≤f) (hf2:f≤9223372036854775807) (hs1 : -9223372036854775808≤sec) (hs2:sec≤9223372036854775807) (hd:d<256) (hx:x<zc) (hep:ep<18446744073709551616) :
  Fn Tryz.prog 3 [stV p q g h f sec (.slice pt N.length c),dtV ep d (.slice pz l.length cz) x (.slice px X.length cx),ze y]
   (fun w=>RdF y9 (.slice pt N.length c) N w∧RdF zb (.slice pz l.length cz) l w∧RdF zb (.slice px X.length cx) X w) (Is (.bool true)):=by
 have hD:=vR p q g h f sec pt c N ep d x pz cz l px cx X hp hq hg hh hN hl hX hf1 hf2 hs1 hs2 hd hx hep;cases e1:vT p q g h f sec N l d x X with
 | false =>
  have hD':=hD.weak (post':=Is dtN) (fun w hw=>hw) (fun v L hv=>hv.2 e1);refine Fn.enter Tryz.func3 rfl rfl rfl ?_;intro w hw;obtain⟨wN,wl,wX⟩:=hw
  repeat (first|refine Ta ?_|(refine Tm ?_;intro _)|refine WO.acall (hc:=hA) (k:=?_)|refine WO.acallR (hc:=hD') (hR:=fun w1 hm=>⟨wN.mod hm.mod,wl.mod hm.mod,wX.mod hm.mod⟩) (k:=?_)|refine Tc ?_|exact Tz)
  done
 | true =>
 have hD':=hD.weak (post':=dtY p q g l N ep d x) (fun w hw=>hw) (fun v L hv=>hv.1 e1);unfold dtY at hD';clear hD;obtain⟨eF,hXl,hNS,eD⟩:=vl e1;obtain⟨hP,hS,hlen,hall,hNl,hln⟩:=yZ eF;obtain⟨hn1,hn7,hnq,hf0,hsec1,hfs,hmg,hmh⟩:=yb hS;have hq0:0<q:=by omega
 have hO:=ay p q g h l pz cz N.length hl (by omega) hq hall hn1 hn7 hnq;have hshg:∀ i,i<N.length→(shL q l N.length)[i]?=some (shN q l i):=fun i hi=>fH hi;have hshb:∀ i,shN q l i<zc:=fun i=>Nat.lt_trans (ax hq0) hq;have hdY:=qZ (q:=q) (l:=l) (N:=N) (n:=N.length) hp;have hYl:(dYs p q l N N.length).length=N.length:=by simp[dYs]
 have hOp:=fun (i:Nat) (hi:i<N.length)=>pW (ep:=ep) (d:=d) l (hNS i hi) hp hq hep hd (by omega);have hNot:=fun (i o:Nat) (hi:i<N.length) (ho:o≠X.getD i 0)=>d6 (ep:=ep) (d:=d) (Y:=dYs p q l N N.length) (hNS i hi) ho;have hcO:=fun (n s:Nat) (hn:n<256) (hs:s<zc) gY sC sS pV pP=>sG p q g h f sec pt c N ep d n s (some ⟨gY,0,none⟩) N.length (dYs p q l N N.length) sC sS pV pP hp hq hg hh hN (by omega) hf1 hf2 hs1 hs2 hn hs hdY hep hd;have hcC:=fun (n z u t:Nat) (ok:mT ⟨ep,d,n,z,u,t⟩) gY sC sS pV pP=>ka p q g h f sec pt c N ep d (some ⟨gY,0,none⟩) N.length (dYs p q l N N.length) sC sS ep d n z u t pV pP hp hq hg hh hN (by omega) hf1 hf2 hs1 hs2 hep hd hdY ok.e ok.d ok.n ok.z ok.c ok.s;have hhI:gIn p q h=true:=(hNS 0 (by omega)).more.1;generalize dSg p q g l N ep d x N.length=sg at *;generalize dVs p q g l N.length=Vs at *;generalize dYs p q l N N.length=Ys at *;generalize dPs p q g l N ep d x N.length=Ps at *;generalize shL q l N.length=Sh at *;simp only[hYl] at hcO hcC;clear e1 eF eD;refine Fn.enter Tryz.func3 rfl rfl rfl ?_;intro w hw;obtain⟨wN,wl,wX⟩:=hw
 repeat (first|refine Tw ?_|(refine Tm ?_;intro _)|exact Tz)
 refine WO.acallX (hc:=hD') (hR:=fun w1 hm=>⟨wN.mod hm.mod,wl.mod hm.mod,wX.mod hm.mod⟩) (k:=fun yy hyy=>?_);clear hyy;generalize yy 0=gV;generalize yy 1=gY;generalize yy 2=gP;clear yy;simp only[List.cons_append,List.nil_append]
 repeat (first|refine Tw ?_|(refine Tm ?_;intro _)|exact Tz)
 refine WO.acallX (hc:=hO) (hR:=fun w1 hm=>wl.mod hm.mod) (k:=fun yy hyy=>?_);clear hyy;generalize yy 0=gL;clear yy;simp only[List.cons_append,List.nil_append]
 repeat (first|refine WO.does (zm rfl rfl rfl) ?_|refine Ta ?_|(refine Tm ?_;intro _)|refine Tc ?_|exact Tz)
 rename_i gS gZ gO gD
 refine WC.loopI (σ:=Nat) (fun i=>i≤N.length) (fun i=>[(3,Sx.pt gS),(4,Sx.pt gZ),(5,Sx.pt gO),(7,Sx.pt gD),(9,.slice (some ⟨gL,0,none⟩) N.length N.length),(11,.int .i64 (i:Int))])
  (fun _=>[⟨gS,29,stC p q g h f sec (.slice pt N.length c)⟩,⟨gZ,32,dtC ep d (.slice pz l.length cz) x (.slice px X.length cx)⟩,⟨gO,24,zb y⟩,⟨gD,37,dlC ep d (.slice (some ⟨gV,0,none⟩) N.length N.length) (.slice (some ⟨gY,0,none⟩) N.length N.length) (.slice (some ⟨gP,0,none⟩) N.length N.length) sg.1 sg.2⟩,⟨gY,24,Ys.flatMap zb⟩,⟨gL,24,Sh.flatMap zb⟩]) (fun i=>N.length - i) 0 (fun i hi=>?_) (Nat.zero_le _)
 try dsimp only at hi ⊢
 by_cases hlt:i<N.length
 ·have hltx:i<X.length:=by omega
  obtain⟨s,hs⟩ : ∃ s,X[i]?=some s:=⟨_,List.getElem?_eq_getElem hltx⟩;have hsb:=hX s (List.mem_of_getElem? hs);have hsg:X.getD i 0=s:=by rw[List.getD_eq_getElem?_getD,hs];rfl
  have hadd2:IntKind.i64.wrap ((i:Int)+1)=((i+1:Nat):Int):=zn (by omega) (by omega) (by omega);have hcv:IntKind.u8.wrap (((i+1:Nat):Nat):Int)=((i+1:Nat):Int):=ua (by omega) (by omega) (by omega);have hcv2:IntKind.i64.wrap (((i+1:Nat):Nat):Int)=((i+1:Nat):Int):=i64_in (by omega) (by omega);obtain⟨z,u,t,o1,ez,ck,ok⟩:=hOp i hlt;have hNo:=fun (o:Nat)=>hNot i o hlt;rw[hsg] at o1 hNo;have hc1:=hcO (i+1) s (by omega) hsb gY sg.1 sg.2;rw[o1] at hc1;have hck:=hcC (i+1) z u t ok gY sg.1 sg.2;rw[ck] at hck;have hPw:=qj p q g h h (shN q l i) hh (hshb i) hp;rw[show exN p h (shN q l i)=z by rw[uK hhI,ez];rfl] at hPw;have e4:=hshg i hlt;generalize shN q l i=si at *;have c4:cut (Sh.flatMap zb) (0+i*4) 4=zb si:=by rw[Nat.zero_add];exact zA zu e4
  obtain⟨bX,oX,rfl,_,hsX⟩:=id wX |>.get hs
  have hcy:cut (X.flatMap zb) (oX+i*4 - oX) 4=zb s:=by rw[Nat.add_sub_cancel_left];exact zA zu hs
  clear hOp hNot hcC ez ck o1
  repeat (first|refine Tw ?_|(refine Tm ?_;intro _)|exact Tz)
  refine WC.dT rfl (by omega) ?_
  repeat (first|refine Tw ?_|(refine Tm ?_;intro _)|exact Tz)
  refine WC.adrawF [13] 15 (k:=?_)
  iterate 3 (first|refine Da ?_|refine Dc ?_)
  refine DQ.does (fun s _=>zf rfl rfl hadd2) Dp.const ?_;refine DQ.does (fun s _=>zr rfl hcv) Dp.const ?_
  iterate 3 (first|refine Da ?_|refine Dc ?_)
  refine DQ.does (fun s _=>za (o':=oX+i*4) rfl rfl hltx rfl) Dp.const ?_;refine DQ.does (fun _ _=>zj (vs:=zb s) (hs:=hsX) (hle:=Nat.le_add_right _ _) (hc:=hcy)) Dp.const ?_;refine DQ.acallM (hc:=hc1 _ _) (hR:=fun w1 hm=>⟨(wN.mod hm.mod).rdK,RdF.ownM (Hs.sg hm) hYl⟩) (k:=?_)
  repeat (first|refine Da ?_|refine Df ?_)
  refine DQ.anil (k:=?_);intro sx _
  repeat (first|refine Tw ?_|(refine Tm ?_;intro _)|exact Tz)
  refine WC.adrawF [13] 15 (k:=?_)
  iterate 3 (first|refine Da ?_|refine Dc ?_)
  refine DQ.does (fun s _=>zf rfl rfl hadd2) Dp.const ?_;refine DQ.does (fun s _=>zr rfl hcv) Dp.const ?_
  iterate 3 (first|refine Da ?_|refine Dc ?_)
  refine DQ.does (fun s _=>za (o':=oX+i*4) rfl rfl hltx rfl) Dp.const ?_;refine DQ.does (fun _ _=>zj (vs:=zb s) (hs:=hsX) (hle:=Nat.le_add_right _ _) (hc:=hcy)) Dp.const ?_;refine DQ.acallM (hc:=hc1 _ _) (hR:=fun w1 hm=>⟨(wN.mod hm.mod).rdK,RdF.ownM (Hs.sg hm) hYl⟩) (k:=?_)
  repeat (first|refine Da ?_|refine Df ?_)
  refine DQ.anil (k:=?_);intro sx _
  repeat (first|refine Tw ?_|(refine Tm ?_;intro _)|exact Tz)
  refine WC.adraw 55 (k:=?_)
  iterate 1 (first|refine Da ?_|refine Dc ?_)
  refine DQ.does (fun s _=>zm rfl rfl rfl) Dp.const ?_
  iterate 2 (first|refine Da ?_|refine Dc ?_)
  refine DQ.does (fun s _=>zm rfl rfl rfl) Dp.const ?_
  iterate 4 (first|refine Da ?_|refine Dc ?_)
  refine DQ.does (fun s _=>lL ok rfl rfl) Dp.const ?_
  iterate 11 (first|refine Da ?_|refine Dc ?_)
  refine DQ.does (fun s _=>za (o':=0+i*4) rfl rfl hlt rfl) Dp.const ?_;refine DQ.does (fun s _=>zx (vs:=zb si) (hc:=c4)) Dp.const ?_;refine DQ.acall (hc:=hPw) (k:=?_);refine DQ.does (fun s _=>uk rfl rfl ok.z ok.z (decide_eq_false (fun h=>h rfl))) Dp.const ?_
  iterate 6 (first|refine Da ?_|refine Dc ?_)
  refine DQ.does (fun s _=>zm rfl rfl rfl) Dp.const ?_
  iterate 6 (first|refine Da ?_|refine Dc ?_)
  refine DQ.does (fun s _=>zm rfl rfl rfl) Dp.const ?_
  iterate 4 (first|refine Da ?_|refine Dc ?_)
  refine DQ.does (fun s _=>zr rfl hcv2) Dp.const ?_
  iterate 1 (first|refine Da ?_|refine Dc ?_)
  refine DQ.does (fun s _=>zf rfl rfl hadd2) Dp.const ?_;refine DQ.does (fun s _=>zm rfl rfl rfl) Dp.const ?_
  iterate 5 (first|refine Da ?_|refine Dc ?_)
  refine DQ.acallM (hc:=hck _ _) (hR:=fun w1 hm=>⟨(wN.mod hm.mod).rdK,RdF.ownM (Hs.sg hm) hYl⟩) (k:=?_)
  iterate 2 (first|refine Da ?_|refine Dc ?_)
  refine DQ.anil (k:=?_);intro sx _
  repeat (first|refine Tw ?_|(refine Tm ?_;intro _)|exact Tz)
  by_cases hys:y=s
  ·rw[hys]
   repeat (first|refine Ta ?_|(refine Tm ?_;intro _)|refine WO.does (zf rfl rfl hadd2) ?_|refine WO.does (zr rfl hcv) ?_|refine WO.acallR (hc:=hc1 _ _) (hR:=fun w1 hm=>⟨(wN.mod hm.mod).rdK,RdF.ownM (Hs.sg hm) hYl⟩) (k:=?_)|refine Tc ?_|exact Tz)
   refine WC.adraw 18 (k:=?_)
   iterate 1 (first|refine Da ?_|refine Dc ?_)
   refine DQ.does (fun s _=>yx rfl rfl rfl) Dp.const ?_
   iterate 4 (first|refine Da ?_|refine Dc ?_)
   refine DQ.does (fun s _=>za (o':=oX+i*4) rfl rfl hltx rfl) Dp.const ?_;refine DQ.does (fun _ _=>zj (vs:=zb s) (hs:=hsX) (hle:=Nat.le_add_right _ _) (hc:=hcy)) Dp.const ?_;refine DQ.does (fun s _=>yv rfl rfl hsb hsb (decide_eq_true rfl)) Dp.const ?_;refine DQ.does (fun s _=>pR rfl rfl) Dp.const ?_
   iterate 2 (first|refine Da ?_|refine Dc ?_)
   refine DQ.does (fun s _=>zm rfl rfl rfl) Dp.const ?_
   iterate 5 (first|refine Da ?_|refine Dc ?_)
   refine DQ.anil (k:=?_);intro sx _
   repeat (first|refine Ta ?_|(refine Tm ?_;intro _)|refine WO.does (zf rfl rfl hadd2) ?_|refine Tc ?_|exact Tz)
   exact WX.metI (i+1) (hs:=⟨by show i+1≤N.length;omega,by show N.length - (i+1)<N.length - i;omega⟩)
  ·have hc2:=hcO (i+1) y (by omega) hy gY sg.1 sg.2;rw[hNo y hys] at hc2
   repeat (first|refine Ta ?_|(refine Tm ?_;intro _)|refine WO.does (zf rfl rfl hadd2) ?_|refine WO.does (zr rfl hcv) ?_|refine WO.acallR (hc:=hc2 _ _) (hR:=fun w1 hm=>⟨(wN.mod hm.mod).rdK,RdF.ownM (Hs.sg hm) hYl⟩) (k:=?_)|refine Tc ?_|exact Tz)
   refine WC.adraw 18 (k:=?_)
   iterate 1 (first|refine Da ?_|refine Dc ?_)
   refine DQ.does (fun s _=>yV rfl rfl (by decide)) Dp.const ?_
   iterate 4 (first|refine Da ?_|refine Dc ?_)
   refine DQ.does (fun s _=>za (o':=oX+i*4) rfl rfl hltx rfl) Dp.const ?_;refine DQ.does (fun _ _=>zj (vs:=zb s) (hs:=hsX) (hle:=Nat.le_add_right _ _) (hc:=hcy)) Dp.const ?_;refine DQ.does (fun s _=>yv rfl rfl hy hsb (decide_eq_false hys)) Dp.const ?_;refine DQ.does (fun s _=>pR rfl rfl) Dp.const ?_
   iterate 2 (first|refine Da ?_|refine Dc ?_)
   refine DQ.does (fun s _=>z6 rfl rfl (by decide)) Dp.const ?_
   iterate 2 (first|refine Da ?_|refine Dc ?_)
   refine DQ.does (fun s _=>zm rfl rfl rfl) Dp.const ?_
   iterate 2 (first|refine Da ?_|refine Dc ?_)
   refine DQ.anil (k:=?_);intro sx _
   repeat (first|refine Ta ?_|(refine Tm ?_;intro _)|refine WO.does (zf rfl rfl hadd2) ?_|refine Tc ?_|exact Tz)
   exact WX.metI (i+1) (hs:=⟨by show i+1≤N.length;omega,by show N.length - (i+1)<N.length - i;omega⟩)
 ·have hi2:i=N.length:=by omega
  subst hi2
  repeat (first|refine Tw ?_|(refine Tm ?_;intro _)|exact Tz)
  refine WC.dF rfl (by omega) ?_
  repeat (first|refine Ta ?_|(refine Tm ?_;intro _)|refine WO.acall (hc:=hA) (k:=?_)|refine Tc ?_|exact Tz)
end
end Sx
end
section
open Go Go.RowKit Go.BigFrame
namespace Sx
theorem iG {g c n:Nat} (h:0<n):agV g c n n=.slice (some ⟨g,0,none⟩) n c:=by cases n with|zero=>omega|succ n=>rfl
theorem fU {t g:Nat} {B r:List Value} {n:Nat} (h:0<n):rwL t g B r n=[⟨g,t,B++r⟩]:=by cases n with|zero=>omega|succ n=>rfl
def ndL (n:Nat) (W:List Nat):Nat→List Nat
 | 0=>[]
 | i+1=>if W.getD i 0%n∈ndL n W i then ndL n W i else ndL n W i++[W.getD i 0%n]
theorem av {n:Nat} {W:List Nat} (h0:0<n):∀ i,(ndL n W i).Nodup∧∀ t∈ndL n W i,t<n
 | 0=>⟨List.nodup_nil,by simp[ndL]⟩
 | i+1=>by
  have ih:=av (W:=W) h0 i;unfold ndL;split
  ·exact ih
  ·rename_i h;refine⟨?_,fun t ht=>?_⟩
   ·rw[List.nodup_append];refine⟨ih.1,by simp,fun a ha b hb=>?_⟩;rw[List.mem_singleton.1 hb];exact fun e=>h (e ▸ ha)
   ·rcases List.mem_append.1 ht with h'|h'
    ·exact ih.2 t h'
    ·rw[List.mem_singleton.1 h'];exact Nat.mod_lt _ h0
theorem bh {n:Nat} {l:List Nat} (hd:l.Nodup) (hl:∀ t∈l,t<n):l.length≤n:=by
 have:=eP n (l.map (· + 1)) (by
  rw[List.Nodup,List.pairwise_map];exact hd.imp (fun h e=>h (by omega))) (fun x hx=>by
  obtain⟨t,ht,rfl⟩:=List.mem_map.1 hx;have:=hl t ht;omega)
 simpa using this
section
variable {p q g h:Nat} {f sec:Int} {N:List (Nat × Nat)} {ep d x:Nat} {l X:List Nat}
structure OpF (p q g h:Nat) (f sec:Int) (N:List (Nat × Nat)) (ep d:Nat) (l X:List Nat) (O:Nat→Od) (t:Nat):Prop where
 r:opR p q g h f sec N ep d (t+1) (X.getD t 0) (dYs p q l N N.length)=.tuple #[.agg (odC (O t)).toArray,.int .i64 0]
 ck:abf p q g h f sec N ep d (dYs p q l N N.length) ep d (t+1) (O t).z (O t).c (O t).s=true
 ok:mT (O t)
 e:(O t).e=ep
 d:(O t).d=d
 n:(O t).n=t+1
 z:(O t).z=h ^ (zK l (t+1)%q)%p
theorem uY (hB:vT p q g h f sec N l d x X=true) (hp:p<zc) (hq:q<zc) (hep:ep<18446744073709551616) (hd:d<256) :
  ∃ O:Nat→Od,∀ t,t<N.length→OpF p q g h f sec N ep d l X O t:=by
 obtain⟨eF,hXl,hNS,eD⟩:=vl hB;obtain⟨hP,hS,hlen,hall,hNl,hln⟩:=yZ eF;obtain⟨hn1,hn7,hnq,hf0,hsec1,hfs,hmg,hmh⟩:=yb hS;refine⟨fun t=>opO p q h ep d (t+1) (X.getD t 0) ((dYs p q l N N.length).getD t 0),fun t ht=>?_⟩;have k:=hNS t ht;obtain⟨h1,h2,h3⟩:=pB (ep:=ep) (d:=d) (l:=l) k;obtain⟨⟨hp1,_,_⟩,_⟩:=yg k.more.1;exact⟨h1,h3,aP hp (by omega) hq (by omega) hep hd (by omega),rfl,rfl,rfl,h2⟩
theorem aT {O:Nat→Od} (hO:∀ t,t<N.length→OpF p q g h f sec N ep d l X O t) {ts:List Nat} (hnd:ts.Nodup) (hlt:∀ t∈ts,t<N.length):OpL p q h N l ep d (ts.map O):=by
 have key:∀ o∈ts.map O,∃ t,t<N.length∧o=O t:=fun o ho=>by
  obtain⟨t,ht,rfl⟩:=List.mem_map.1 ho;exact⟨t,hlt t ht,rfl⟩
 constructor
 ·intro o ho;obtain⟨t,ht,rfl⟩:=key o ho;exact (hO t ht).ok
 ·intro o ho;obtain⟨t,ht,rfl⟩:=key o ho;exact (hO t ht).e
 ·intro o ho;obtain⟨t,ht,rfl⟩:=key o ho;exact (hO t ht).d
 ·intro o ho;obtain⟨t,ht,rfl⟩:=key o ho;rw[(hO t ht).n];omega
 ·intro o ho;obtain⟨t,ht,rfl⟩:=key o ho;rw[(hO t ht).z,(hO t ht).n]
 ·rw[List.map_map,List.Nodup,List.pairwise_map];refine List.Pairwise.imp_of_mem (fun ha hb hab=>?_) hnd;show (O _).n≠(O _).n;rw[(hO _ (hlt _ ha)).n,(hO _ (hlt _ hb)).n];omega
end
def spO (p b:Nat) (o:Od):Od:=⟨o.e,o.d,o.n,o.z*b%p,o.c,o.s⟩
theorem aa1 {p q a b:Nat} (ha:gIn p q a=true) (hb:gIn p q b=true) (hq:0<q):gIn p q (a*b%p)=true:=by
 obtain⟨⟨h1,_,_⟩,ha'⟩:=yg ha;obtain⟨_,hb'⟩:=yg hb;have e:(a*b%p) ^ q%p=1:=by rw[← Nat.pow_mod,Nat.mul_pow,Nat.mul_mod,ha',hb',Nat.one_mul,Nat.mod_eq_of_lt h1]
 have e0:a*b%p≠0:=fun h0=>by rw[h0,Nat.zero_pow hq,Nat.zero_mod] at e;cases e
 have e1:a*b%p<p:=Nat.mod_lt _ (by omega);unfold gIn yB;rw[e,decide_eq_true h1,decide_eq_true e0,decide_eq_true e1];rfl
section
variable {p q g h F m:Nat} {N:List (Nat × Nat)} {ep d:Nat} {l X:List Nat} {O:Nat→Od} {b T:Nat}
theorem acJ (hn:∀ t,t<N.length→(O t).n=t+1) (hT:T<N.length):∀ t,t<N.length→(uV O T (spO p b (O T)) t).n=t+1:=fun t ht=>by
 unfold uV
 by_cases e:t=T
 ·rw[if_pos e,e];exact hn T hT
 ·rw[if_neg e];exact hn t ht
theorem ack (hS:y6 p q g h (F:Int) (m:Int) N=true) (hP:Pri q) (hh:gIn p q h=true) (hl:l.length=F+m)
  (hn:∀ t,t<N.length→(O t).n=t+1) (hz:∀ t,t<N.length→(O t).z=h ^ (zK l (t+1)%q)%p) (hb:gIn p q b=true) (hb1:b≠1) (hT:T<N.length) :
  wtE q ((rKs N.length (F+m) (vG N.length (uV O T (spO p b (O T))))).map (· + 1)) ((rKs N.length (F+m) (vG N.length (uV O T (spO p b (O T))))).map (· + 1)).length=0 ∧
  ∀ j,j<m→(rsN p q ((rKs N.length (F+m) (vG N.length (uV O T (spO p b (O T))))).map (· + 1)) (rZs N.length (F+m) (vG N.length (uV O T (spO p b (O T))))) j=osN p q h l j↔F+m≤T):=by
 unfold y6 at hS;simp only[Bool.and_eq_true,decide_eq_true_eq] at hS;have hM:F+m≤N.length:=by omega
 have hn':=acJ (p:=p) (b:=b) hn hT;rw[abj hn' hM,aaz hn' hM];have hO:tX q ((List.range (F+m)).map (· + 1)):=qu (q:=q) (ks:=List.range (F+m)) (fun e=>by have:=congrArg List.length e;simp at this;omega) List.nodup_range (fun k hk=>by have:=List.mem_range.1 hk;omega) (by simp;omega);have hzs:((List.range (F+m)).map fun t=>(O t).z)=(((List.range (F+m)).map (· + 1)).map fun a=>zK l a%q).map fun e=>h ^ e%p:=by
  rw[List.map_map,List.map_map];exact List.map_congr_left (fun t ht=>hz t (by have:=List.mem_range.1 ht;omega))
 have hlen:l.length≤((List.range (F+m)).map (· + 1)).length:=by simp;omega
 refine⟨oM hP hO (Nat.le_refl _),fun j hj=>?_⟩
 by_cases hTM:F+m≤T
 ·rw[aaR hTM,hzs];refine⟨fun _=>hTM,fun _=>?_⟩;unfold rsN osN;rw[ql hP hh hO hlen,uK hh];rfl
 ·rw[acH (by omega),hzs];refine⟨fun e=>absurd e ?_,fun e=>absurd e hTM⟩;exact bO hP hh hO hlen (by omega) (fun v hv=>by
   obtain⟨t,ht,rfl⟩:=List.mem_map.1 hv;have:=List.mem_range.1 ht;omega) (by simp;omega) (by rw[← hzs,List.getElem?_map,List.getElem?_range (by omega)];rfl) hb hb1
theorem iH (hS:y6 p q g h (F:Int) (m:Int) N=true) (he:∀ t,t<N.length→(O t).e=ep) (hd:∀ t,t<N.length→(O t).d=d) (hn:∀ t,t<N.length→(O t).n=t+1)
  (hz:∀ t,t<N.length→gIn p q (O t).z=true) (hb:gIn p q b=true) (hq:0<q) (hT:T<N.length) :
  yY p q g h (F:Int) (m:Int) N (vG N.length (uV O T (spO p b (O T))))=true:=by
 have hn':=acJ (p:=p) (b:=b) hn hT;have hall:∀ o∈vG N.length (uV O T (spO p b (O T))),o.e=ep∧o.d=d∧(1≤o.n∧o.n≤N.length)∧gIn p q o.z=true:=fun o ho=>by
  obtain⟨t,ht,rfl⟩:=oE.1 ho;have h1:=hn' t ht;refine⟨?_,?_,by omega,?_⟩
  ·unfold uV;by_cases e:t=T
   ·rw[if_pos e];exact he T hT
   ·rw[if_neg e];exact he t ht
  ·unfold uV;by_cases e:t=T
   ·rw[if_pos e];exact hd T hT
   ·rw[if_neg e];exact hd t ht
  ·unfold uV;by_cases e:t=T
   ·rw[if_pos e];exact aa1 (hz T hT) hb hq
   ·rw[if_neg e];exact hz t ht
 have hlen:(vG N.length (uV O T (spO p b (O T)))).length=N.length:=by simp[vG]
 have hFm:(F:Int)+(m:Int)≤(N.length:Int):=by
  unfold y6 at hS;simp only[Bool.and_eq_true,decide_eq_true_eq] at hS;omega
 refine nz hS (by rw[hlen];exact hFm) (fun j o hj=>?_) (fun i j x y hij hi hj e=>by
  have h1:((vG N.length (uV O T (spO p b (O T)))).map Od.n)[i]?=some y.n:=by rw[List.getElem?_map,hi];rfl
  have h2:((vG N.length (uV O T (spO p b (O T)))).map Od.n)[j]?=some y.n:=by rw[List.getElem?_map,hj,e];rfl
  have:=uO (aX hn') h1 h2;omega)
 have hm:=hall o (List.mem_of_getElem? hj);have hd0:(vG N.length (uV O T (spO p b (O T)))).headD od0∈vG N.length (uV O T (spO p b (O T))):=by
  generalize vG N.length (uV O T (spO p b (O T)))=ls at *;cases ls with
  | nil=>simp at hj
  | cons a r=>simp
 have hm0:=hall _ hd0;unfold odB;rw[hm.1,hm0.1,hm.2.1,hm0.2.1,yw hm.2.2.2];have:=hm.2.2.1;unfold ui;simp[this.1,this.2]
theorem acG (hp:p<zc) (h0:0<p) (hk:∀ t,t<N.length→mT (O t)) (hT:T<N.length):∀ o∈vG N.length (uV O T (spO p b (O T))),mT o:=fun o ho=>by
 obtain⟨t,ht,rfl⟩:=oE.1 ho;unfold uV
 by_cases e:t=T
 ·rw[if_pos e];have k:=hk T hT;exact⟨k.e,k.d,k.n,Nat.lt_trans (Nat.mod_lt _ h0) hp,k.c,k.s⟩
 ·rw[if_neg e];exact hk t ht
end
end Sx
end
section
open Go Go.RowKit Go.BigFrame
namespace Sx
attribute [local irreducible] DQ DQS WC WO WX wd
theorem abo {α:Type} {f:α→List Value} {K:Nat} (hf:∀ x,(f x).length=K) {N:List α} {k j:Nat} {x y:α} {r vs:List Value} (hx:N[k]?=some x) (hj:∀ r,over (f x++r) j vs=f y++r):over (N.flatMap f++r) (k*K+j) vs=(N.set k y).flatMap f++r:=by
 obtain⟨hk,e⟩:=List.getElem?_eq_some_iff.1 hx;have h1:N=N.take k++x::N.drop (k+1):=by rw[← e,← List.drop_eq_getElem_cons hk,List.take_append_drop]
 have h2:N.set k y=N.take k++y::N.drop (k+1):=List.set_eq_take_append_cons_drop.trans (if_pos hk);rw[h2]
 conv=>lhs;rw[h1]
 simp only[List.flatMap_append,List.flatMap_cons,List.append_assoc];rw[fj (by rw[zy hf,List.length_take,Nat.min_eq_left (by omega)]),hj]
theorem af {o:Od} {v:Nat} (r:List Value):over (odC o++r) 3 (zb v)=odC ⟨o.e,o.d,o.n,v,o.c,o.s⟩++r:=rfl
section
variable (p q g h:Nat) (F m:Nat) (pt:Option Addr) (c:Nat) (N:List (Nat × Nat)) (l:List Nat) (ep d:Nat) (ls:List Od) (pl:Option Addr) (cl:Nat)
theorem dM (hp:p<zc) (hq:q<zc) (hg:g<zc) (hh:h<zc) (hN:yp N) (hNl:N.length≤100) (hs:y6 p q g h (F:Int) (m:Int) N=true)
  (hk:∀ o∈ls,mT o) (hlen:F+m≤ls.length) (hle:ls.length≤N.length) (hB:yY p q g h (F:Int) (m:Int) N ls=true)
  (hw:wtE q ((rKs N.length (F+m) ls).map (· + 1)) ((rKs N.length (F+m) ls).map (· + 1)).length=0) :
  Fn Tryz.prog 16 [stV p q g h (F:Int) (m:Int) (.slice pt N.length c),.slice pl ls.length cl] (fun w=>RdF y9 (.slice pt N.length c) N w∧RdF odC (.slice pl ls.length cl) ls w)
   (Ex (fun s=>.tuple #[.slice (some ⟨s 0,0,none⟩) m m,.int .i64 0]) (fun s=>[⟨s 0,24,(rsL p q ((rKs N.length (F+m) ls).map (· + 1)) (rZs N.length (F+m) ls) m).flatMap zb⟩]) (fun _=>True)):=by
 refine (rY p q g h pt c N pl cl ls F m hp hq hg hh hN hNl hk (by omega) hs hlen hle).weak (fun w hw=>hw) (fun v L hv=>?_);have hv1:=hv.1 hB;unfold oRY at hv1;rw[hw] at hv1
 rcases hv1 with ⟨h0,_⟩|⟨_,g1,h1,h2⟩
 ·exact absurd rfl h0
 ·exact⟨fun _=>g1,h1,h2,trivial⟩
end
theorem aaG {p q g h:Nat} {f sec:Int} {N:List (Nat × Nat)} {ep d:Nat} {l X:List Nat} {O:Nat→Od} (hO:∀ t,t<N.length→OpF p q g h f sec N ep d l X O t):OpL p q h N l ep d (vG N.length O):=by
 have e:vG N.length O=((List.range N.length).map fun i=>N.length - 1 - i).map O:=by unfold vG;rw[List.map_map];rfl
 rw[e];refine aT hO ?_ (fun t ht=>?_)
 ·rw[List.Nodup,List.pairwise_map];refine List.Pairwise.imp_of_mem (fun {a b} ha hb hab=>?_) List.nodup_range;have h1:=List.mem_range.1 ha;have h2:=List.mem_range.1 hb;omega
 ·obtain⟨i,hi,rfl⟩:=List.mem_map.1 ht;have:=List.mem_range.1 hi;omega
theorem tw (n:Nat) (O:Nat→Od):(vG n O).length=n:=by simp[vG]
theorem gr {n k:Nat} {O:Nat→Od} (hk:k<n):(vG n O)[k]?=some (O (n - 1 - k)):=by unfold vG;rw[List.getElem?_map,List.getElem?_range hk];rfl
section
variable (p q g h:Nat) (F m:Nat) (pt:Option Addr) (c:Nat) (N:List (Nat × Nat)) (ep d x:Nat) (pz:Option Addr) (cz:Nat) (l:List Nat) (px:Option Addr) (cx:Nat) (X:List Nat) (a b:Nat)
theorem ik (hA:Fn Tryz.prog 9 [] Tr (Is (.bool true))) (hp:p<zc) (hq:q<zc) (hg:g<zc) (hh:h<zc) (hN:yp N) (hl:∀ a∈l,a<zc) (hX:∀ a∈X,a<zc) (ha:a<256) (hb:b<zc)
  (hd:d<256) (hx:x<zc) (hep:ep<18446744073709551616) (hF:F≤2) (hm:m≤3) (e1:vT p q g h (F:Int) (m:Int) N l d x X=true) :
  Fn Tryz.prog 7 [stV p q g h (F:Int) (m:Int) (.slice pt N.length c),dtV ep d (.slice pz l.length cz) x (.slice px X.length cx),spV a b]
   (fun w=>RdF y9 (.slice pt N.length c) N w∧RdF zb (.slice pz l.length cz) l w∧RdF zb (.slice px X.length cx) X w) (Is (.bool true)):=by
 have hD':=(vR p q g h (F:Int) (m:Int) pt c N ep d x pz cz l px cx X hp hq hg hh hN hl hX (by omega) (by omega) (by omega) (by omega) hd hx hep).weak (post':=dtY p q g l N ep d x) (fun w hw=>hw) (fun v L hv=>hv.1 e1);unfold dtY at hD';obtain⟨eF,hXl,hNS,eD⟩:=vl e1;obtain⟨hP,hS,hlen,hall,hNl,hln⟩:=yZ eF;obtain⟨hn1,hn7,hnq,hf0,hsec1,hfs,hmg,hmh⟩:=yb hS;obtain⟨O,hO⟩:=uY e1 hp hq hep hd;have hhI:gIn p q h=true:=(hNS 0 (by omega)).more.1;have hq0:0<q:=by omega
 obtain⟨⟨hp1,_,_⟩,_⟩:=yg hhI;have hlFm:l.length=F+m:=by omega
 have hFm:F+m≤N.length:=by
  have hS':=hS;unfold y6 at hS';simp only[Bool.and_eq_true,decide_eq_true_eq] at hS';omega
 have hSa:=tF p q g h (F:Int) pt c N pz cz l m hp hq hg hh hN hNl hl hln (by omega) (by omega) (by omega) (by unfold rX;rw[hS,hall,decide_eq_true hlen];rfl);have hosl:(osL p q h l m).length=m:=by simp[osL]
 have hSN:=fun gA gB=>sy (osL p q h l m) (some ⟨gA,0,none⟩) (some ⟨gB,0,none⟩) m m (by rw[hosl];omega);have hdY:=qZ (q:=q) (l:=l) (N:=N) (n:=N.length) hp;have hYl:(dYs p q l N N.length).length=N.length:=by simp[dYs]
 have hcO:=fun (n s:Nat) (hn:n<256) (hs:s<zc) gY sC sS pV pP=>sG p q g h (F:Int) (m:Int) pt c N ep d n s (some ⟨gY,0,none⟩) N.length (dYs p q l N N.length) sC sS pV pP hp hq hg hh hN (by omega) (by omega) (by omega) (by omega) (by omega) hn hs hdY hep hd;have hOr:∀ t,t<N.length→opR p q g h (F:Int) (m:Int) N ep d (t+1) (X.getD t 0) (dYs p q l N N.length)=.tuple #[.agg (odC (O t)).toArray,.int .i64 0]:=fun t ht=>(hO t ht).r;have hOn:∀ t,t<N.length→(O t).n=t+1:=fun t ht=>(hO t ht).n;have hOe:∀ t,t<N.length→(O t).e=ep:=fun t ht=>(hO t ht).e;have hOd:∀ t,t<N.length→(O t).d=d:=fun t ht=>(hO t ht).d;have hOz:∀ t,t<N.length→(O t).z=h ^ (zK l (t+1)%q)%p:=fun t ht=>(hO t ht).z;have hOk:∀ t,t<N.length→mT (O t):=fun t ht=>(hO t ht).ok;have hOi:∀ t,t<N.length→gIn p q (O t).z=true:=fun t ht=>by rw[hOz t ht];exact uc hhI hq0 _
 have hMu:∀ t,t<N.length→Fn Tryz.prog 20 [yR p q g h,ze (O t).z,ze b] Tr (Is (rE (yB p b) ((O t).z*b%p))):=fun t ht=>by
  have:=nu p q g h (O t).z b (hOk t ht).z hb hp;rw[yw (hOi t ht),Bool.true_and] at this;exact this
 have hIn:=tv p q g h b hb hp hq;have hRO:=fun (gl cl:Nat) (h1:F+m≤(vG N.length O).length) (h2:(vG N.length O).length≤N.length)=>ry p q g h F m pt c N l ep d (vG N.length O) (some ⟨gl,0,none⟩) cl hp hq hg hh hN hNl hP hS hlFm (aaG hO) h1 h2;have hRO':=fun gl cl=>hRO gl cl (by rw[tw];exact hFm) (Nat.le_of_eq (tw _ _));rw[tw] at hRO'
 have hRA:∀ T,T<N.length→gIn p q b=true→b≠1→∃ R:List Nat,R.length=m∧(∀ j,j<m→∃ r,R[j]?=some r∧r<zc∧(r=osN p q h l j↔F+m≤T))∧∀ gl cl,
   Fn Tryz.prog 16 [stV p q g h (F:Int) (m:Int) (.slice pt N.length c),.slice (some ⟨gl,0,none⟩) N.length cl] (fun w=>RdF y9 (.slice pt N.length c) N w∧RdF odC (.slice (some ⟨gl,0,none⟩) N.length cl) (vG N.length (uV O T (spO p b (O T)))) w)
    (Ex (fun s=>.tuple #[.slice (some ⟨s 0,0,none⟩) m m,.int .i64 0]) (fun s=>[⟨s 0,24,R.flatMap zb⟩]) (fun _=>True)):=fun T hT hbI hb1=>by
  have k1:=ack hS hP hhI hlFm hOn hOz hbI hb1 hT;have k2:=iH hS hOe hOd hOn hOi hbI hq0 hT;have k3:=acG (b:=b) hp (by omega) hOk hT;have hr:=tw N.length (uV O T (spO p b (O T)));generalize hL:vG N.length (uV O T (spO p b (O T)))=L at *;refine⟨rsL p q ((rKs N.length (F+m) L).map (· + 1)) (rZs N.length (F+m) L) m,?_,fun j hj=>⟨rsN p q ((rKs N.length (F+m) L).map (· + 1)) (rZs N.length (F+m) L) j,?_,?_,k1.2 j hj⟩,fun gl cl=>?_⟩
  rotate_left 3
  ·have:=dM p q g h F m pt c N L (some ⟨gl,0,none⟩) cl hp hq hg hh hN hNl hS k3 (by omega) (by omega) k2 k1.1;rw[hr] at this;exact this
  ·simp[rsL]
  ·unfold rsL;rw[List.getElem?_map,List.getElem?_range hj];rfl
  ·unfold rsN;exact Nat.lt_trans (acj hp1) hp
 have hosg:∀ i,i<m→(osL p q h l m)[i]?=some (osN p q h l i):=fun i hi=>by unfold osL;rw[List.getElem?_map,List.getElem?_range hi];rfl
 have hob:∀ i,osN p q h l i<zc:=fun i=>rc hp;generalize osL p q h l m=OA at *;generalize dSg p q g l N ep d x N.length=sg at *;generalize dVs p q g l N.length=Vs at *;generalize dYs p q l N N.length=Ys at *;generalize dPs p q g l N ep d x N.length=Ps at *;simp only[hYl,hosl] at hcO hSN;clear e1 eF eD hO hNS hRO hOe hOd hOz;refine Fn.enter Tryz.func7 rfl rfl rfl ?_;intro w hw;obtain⟨wN,wl,wX⟩:=hw
 repeat (first|refine Tw ?_|(refine Tm ?_;intro _)|exact Tz)
 refine WO.acallX (hc:=hD') (hR:=fun w1 hm=>⟨wN.mod hm.mod,wl.mod hm.mod,wX.mod hm.mod⟩) (k:=fun yy hyy=>?_);clear hyy;generalize yy 0=gV;generalize yy 1=gY;generalize yy 2=gP;clear yy;simp only[List.cons_append,List.nil_append]
 repeat (first|refine Tw ?_|(refine Tm ?_;intro _)|exact Tz)
 rename_i gS gZ gX gD
 refine WC.loopI (σ:=Nat × Nat × Nat) (fun s=>s.1≤N.length∧(0<s.1→s.2.2<9223372036854775808∧s.1≤s.2.2)) (fun s=>[(3,Sx.pt gS),(4,Sx.pt gZ),(5,Sx.pt gX),(7,Sx.pt gD),(9,agV s.2.1 s.2.2 s.1 s.1),(10,.int .i64 (N.length:Int)),(11,.int .i64 (s.1:Int))])
  (fun s=>⟨gS,29,stC p q g h (F:Int) (m:Int) (.slice pt N.length c)⟩::⟨gZ,32,dtC ep d (.slice pz l.length cz) x (.slice px X.length cx)⟩::⟨gX,67,spC a b⟩::⟨gD,37,dlC ep d (.slice (some ⟨gV,0,none⟩) N.length N.length) (.slice (some ⟨gY,0,none⟩) N.length N.length) (.slice (some ⟨gP,0,none⟩) N.length N.length) sg.1 sg.2⟩::⟨gY,24,Ys.flatMap zb⟩::rwL 46 s.2.1 (((List.range s.1).map fun i=>O (N.length - 1 - i)).flatMap odC) (mkz (s.2.2 - s.1) (opC 0 0 0 0 0 0)) s.1) (fun s=>N.length - s.1) (0,0,0) (fun s hi=>?_) ⟨Nat.zero_le _,fun h=>absurd h (by decide)⟩
 obtain⟨i,gl,cl⟩:=s
 try dsimp only at hi ⊢
 obtain⟨hi,hr⟩:=hi
 by_cases hlt:i<N.length
 ·obtain⟨t,ht⟩ : ∃ t,t=N.length - 1 - i:=⟨_,rfl⟩;have htn:t<N.length:=by omega
  have hltx:t<X.length:=by omega
  obtain⟨s,hs⟩ : ∃ s,X[t]?=some s:=⟨_,List.getElem?_eq_getElem hltx⟩;have hsb:=hX s (List.mem_of_getElem? hs);have hsg:X.getD t 0=s:=by rw[List.getD_eq_getElem?_getD,hs];rfl
  have hadd2:IntKind.i64.wrap ((i:Int)+1)=((i+1:Nat):Int):=zn (by omega) (by omega) (by omega);have hsb1:IntKind.i64.wrap ((N.length:Int) - (i:Int))=((t+1:Nat):Int):=zn (by omega) (by omega) (by omega);have hsb2:IntKind.i64.wrap ((N.length:Int) - 1)=((N.length - 1:Nat):Int):=zn (by omega) (by omega) (by omega);have hsb3:IntKind.i64.wrap (((N.length - 1:Nat):Int) - (i:Int))=((t:Nat):Int):=zn (by omega) (by omega) (by omega);have hcv4:IntKind.u8.wrap ((t+1:Nat):Int)=((t+1:Nat):Int):=ua (by omega) (by omega) (by omega);have hc1:=hcO (t+1) s (by omega) hsb gY sg.1 sg.2;rw[← hsg,hOr t htn,hsg] at hc1;obtain⟨bX,oX,rfl,_,hsX⟩:=id wX |>.get hs
  have hcy:cut (X.flatMap zb) (oX+t*4 - oX) 4=zb s:=by rw[Nat.add_sub_cancel_left];exact zA zu hs
  have hB2:((List.range i).map fun i=>O (N.length - 1 - i)).flatMap odC++odC (O t)=((List.range (i+1)).map fun i=>O (N.length - 1 - i)).flatMap odC:=by rw[vN,List.flatMap_append,ht];simp
  have hBl:(((List.range i).map fun i=>O (N.length - 1 - i)).flatMap odC).length=i*15:=by rw[zy (k:=15) (fun _=>rfl)];simp
  generalize O t=Oi at *
  repeat (first|refine Tw ?_|(refine Tm ?_;intro _)|exact Tz)
  refine WC.dT rfl (by omega) ?_
  repeat (first|refine Tw ?_|(refine Tm ?_;intro _)|exact Tz)
  refine WC.adrawF [17] 19 (k:=?_)
  iterate 4 (first|refine Da ?_|refine Dc ?_)
  refine DQ.does (fun s _=>zp rfl rfl hsb1) Dp.const ?_;refine DQ.does (fun s _=>zr rfl hcv4) Dp.const ?_
  iterate 3 (first|refine Da ?_|refine Dc ?_)
  refine DQ.does (fun s _=>zp rfl rfl hsb2) Dp.const ?_
  iterate 1 (first|refine Da ?_|refine Dc ?_)
  refine DQ.does (fun s _=>zp rfl rfl hsb3) Dp.const ?_;refine DQ.does (fun s _=>za (o':=oX+t*4) rfl rfl hltx rfl) Dp.const ?_;refine DQ.does (fun _ _=>zj (vs:=zb s) (hs:=hsX) (hle:=Nat.le_add_right _ _) (hc:=hcy)) Dp.const ?_;refine DQ.acallM (hc:=hc1 _ _) (hR:=fun w1 hm=>⟨(wN.mod hm.mod).rdK,RdF.ownM (Hs.sg hm) hYl⟩) (k:=?_)
  repeat (first|refine Da ?_|refine Df ?_)
  refine DQ.anil (k:=?_);intro sx _
  repeat (first|refine WO.does (zm rfl rfl rfl) ?_|refine Ta ?_|(refine Tm ?_;intro _)|refine Tc ?_|exact Tz)
  rcases i with _|i
  ·have hB3:odC Oi=((List.range (0+1)).map fun i=>O (N.length - 1 - i)).flatMap odC:=by simpa using hB2
   try dsimp only[agV,rwL]
   repeat (first|refine Ta ?_|(refine Tm ?_;intro _)|(refine WO.makes (zd (cs:=odC Oi) rfl (by decide) rfl) ?_;intro _)|refine Tc ?_|exact Tz)
   refine WO.appNZ (z:=opC 0 0 0 0 0 0) (ys:=odC Oi) (m:=1) rfl rfl rfl (Rds.own (m:=15) Hs.here rfl) rfl (by decide) (by decide) (by decide) (by decide) (fun g1 c1 a2 a3=>?_);rw[hB3]
   repeat (first|refine WO.does (zf rfl rfl hadd2) ?_|refine Ta ?_|(refine Tm ?_;intro _)|refine Tc ?_|exact Tz)
   exact WX.metI (0+1,g1,c1) (hs:=⟨⟨by show 0+1≤N.length;omega,fun _=>⟨a2,a3⟩⟩,by show N.length - (0+1)<N.length - 0;omega⟩)
  ·obtain⟨r1,r2⟩:=hr (by omega)
   try dsimp only[agV,rwL]
   repeat (first|refine Ta ?_|(refine Tm ?_;intro _)|(refine WO.makes (zd (cs:=odC Oi) rfl (by decide) rfl) ?_;intro _)|refine Tc ?_|exact Tz)
   refine WO.appKZ (z:=opC 0 0 0 0 0 0) (m:=1) (l:=i+1+1) rfl rfl rfl (xs:=((List.range (i+1)).map fun i=>O (N.length - 1 - i)).flatMap odC) (ys:=odC Oi) hBl r2 Pk.a (Rds.own (m:=15) Hs.here rfl) rfl rfl rfl (by omega) r1 (by omega) (by decide) (by decide) (fun g1 c1 a2 a3=>?_);rw[hB2]
   repeat (first|refine WO.does (zf rfl rfl hadd2) ?_|refine Ta ?_|(refine Tm ?_;intro _)|refine Tc ?_|exact Tz)
   exact WX.metI (i+1+1,g1,c1) (hs:=⟨⟨by show i+1+1≤N.length;omega,fun _=>⟨a2,a3⟩⟩,by show N.length - (i+1+1)<N.length - (i+1);omega⟩)
 ·have hi3:i=N.length:=by omega
  subst hi3;rw[iG (by omega),fU (by omega)];have hR:=hRO' gl cl;have hrl:=tw N.length O;obtain⟨k,hk⟩ : ∃ k,a%N.length=k:=⟨_,rfl⟩;have hkN:k<N.length:=by rw[← hk];exact Nat.mod_lt _ (by omega)
  obtain⟨T,hT⟩ : ∃ T,T=N.length - 1 - k:=⟨_,rfl⟩;have hTN:T<N.length:=by omega
  have hcv:IntKind.i64.wrap (a:Int)=(a:Int):=i64_in (by omega) (by omega);have hrem:((a:Int)).tmod (N.length:Int)=(k:Int):=by rw[← hk];rfl
  have hgk:(vG N.length O)[k]?=some (O T):=by rw[gr hkN,hT]
  have hset:(vG N.length O).set k (spO p b (O T))=vG N.length (uV O T (spO p b (O T))):=by rw[hT];exact abD hkN
  have hMi:=hMu T hTN;have hRT:=hRA T hTN;have hnT:=hOn T hTN;have hkT:=hOk T hTN;have hcz:∀ r,cut ((vG N.length O).flatMap odC++r) (k*15+3) 4=zb (O T).z:=fun r=>eT (tP (k:=15) (fun _=>rfl) hgk) rfl (by decide);rw[show ((List.range N.length).map fun i=>O (N.length - 1 - i))=vG N.length O from rfl]
  repeat (first|refine Tw ?_|(refine Tm ?_;intro _)|exact Tz)
  refine WC.dF rfl (by omega) ?_
  repeat (first|refine Tw ?_|(refine Tm ?_;intro _)|exact Tz)
  refine WO.acallX (hc:=hSa) (hR:=fun w1 hm=>⟨wN.mod hm.mod,wl.mod hm.mod⟩) (k:=fun yy hyy=>?_);clear hyy;generalize yy 0=gA;clear yy;simp only[List.cons_append,List.nil_append]
  repeat (first|refine Tw ?_|(refine Tm ?_;intro _)|exact Tz)
  refine WO.acallX (hc:=hR) (hR:=fun w1 hm=>⟨wN.mod hm.mod,RdF.ownO (Hs.sg hm) hrl⟩) (k:=fun yy hyy=>?_);clear hyy;generalize yy 0=gG;clear yy;simp only[List.cons_append,List.nil_append]
  repeat (first|refine WO.does (zm rfl rfl rfl) ?_|refine WO.does (zr rfl hcv) ?_|refine WO.does (tg rfl rfl (by omega) hrem) ?_|refine Ta ?_|(refine Tm ?_;intro _)|refine WO.acallR (hc:=hSN gG gA) (hR:=fun w1 hm=>⟨RdF.ownM (Hs.sg hm) hosl,RdF.ownM (Hs.sg hm) hosl⟩) (k:=?_)|refine Tc ?_|exact Tz)
  cases hy:yB p b with
  | false =>
   rw[hy] at hMi;have he:okE false≠0:=by decide
   rw[show Is (rE false ((O T).z*b%p))=Is (.tuple #[ze 0,.int .i64 (okE false)]) from rfl] at hMi;generalize okE false=er at *;refine WC.adrawF [12] 14 (k:=?_)
   iterate 4 (first|refine Da ?_|refine Dc ?_)
   refine DQ.does (fun s _=>za (o':=k*15) rfl rfl hkN (Nat.zero_add _)) Dp.const ?_
   iterate 1 (first|refine Da ?_|refine Dc ?_)
   refine DQ.does (fun s _=>zx (vs:=zb (O T).z) (hc:=hcz _)) Dp.const ?_
   iterate 2 (first|refine Da ?_|refine Dc ?_)
   refine DQ.acall (hc:=hMi) (k:=?_)
   repeat (first|refine Da ?_|refine Df ?_)
   refine DQ.anil (k:=?_);intro sx _
   repeat (first|refine WO.does (z6 rfl rfl he) ?_|refine Ta ?_|(refine Tm ?_;intro _)|refine WO.acall (hc:=hA) (k:=?_)|refine Tc ?_|exact Tz)
   done
  | true =>
  rw[hy] at hMi;rw[show Is (rE true ((O T).z*b%p))=Is (.tuple #[ze ((O T).z*b%p),.int .i64 0]) from rfl] at hMi
  by_cases hb1:b=1
  ·skip
   refine WC.adrawF [12] 14 (k:=?_)
   iterate 4 (first|refine Da ?_|refine Dc ?_)
   refine DQ.does (fun s _=>za (o':=k*15) rfl rfl hkN (Nat.zero_add _)) Dp.const ?_
   iterate 1 (first|refine Da ?_|refine Dc ?_)
   refine DQ.does (fun s _=>zx (vs:=zb (O T).z) (hc:=hcz _)) Dp.const ?_
   iterate 2 (first|refine Da ?_|refine Dc ?_)
   refine DQ.acall (hc:=hMi) (k:=?_)
   repeat (first|refine Da ?_|refine Df ?_)
   refine DQ.anil (k:=?_);intro sx _
   repeat (first|refine WO.does (zm rfl rfl rfl) ?_|refine WO.does (zL (cs:=zb 1) rfl rfl (by kernel_rfl)) ?_|refine WO.does (yv rfl rfl hb yD (decide_eq_true hb1)) ?_|refine Ta ?_|(refine Tm ?_;intro _)|refine WO.acall (hc:=hA) (k:=?_)|refine Tc ?_|exact Tz)
   done
  cases hI:gIn p q b with
  | false =>
   rw[hI] at hIn;refine WC.adrawF [12] 14 (k:=?_)
   iterate 4 (first|refine Da ?_|refine Dc ?_)
   refine DQ.does (fun s _=>za (o':=k*15) rfl rfl hkN (Nat.zero_add _)) Dp.const ?_
   iterate 1 (first|refine Da ?_|refine Dc ?_)
   refine DQ.does (fun s _=>zx (vs:=zb (O T).z) (hc:=hcz _)) Dp.const ?_
   iterate 2 (first|refine Da ?_|refine Dc ?_)
   refine DQ.acall (hc:=hMi) (k:=?_)
   repeat (first|refine Da ?_|refine Df ?_)
   refine DQ.anil (k:=?_);intro sx _
   repeat (first|refine WO.does (zm rfl rfl rfl) ?_|refine WO.does (zL (cs:=zb 1) rfl rfl (by kernel_rfl)) ?_|refine WO.does (yv rfl rfl hb yD (decide_eq_false hb1)) ?_|refine Ta ?_|(refine Tm ?_;intro _)|refine WO.acall (hc:=hA) (k:=?_)|refine WO.acall (hc:=hIn) (k:=?_)|refine Tc ?_|exact Tz)
   done
  | true =>
  rw[hI] at hIn;obtain⟨R,hRl,hRg,hRR⟩:=hRT hI hb1;have hgA:(vG N.length (uV O T (spO p b (O T))))[k]?=some (spO p b (O T)):=by rw[gr hkN,← hT];unfold uV;rw[if_pos rfl]
  have hov:∀ r,over ((vG N.length O).flatMap odC++r) (k*15+3) (zb ((O T).z*b%p))=(vG N.length (uV O T (spO p b (O T)))).flatMap odC++r:=fun r=>by
   rw[← hset];exact abo (f:=odC) (K:=15) (fun _=>rfl) hgk (fun r=>af r)
  have hle:∀ r,Nat.ble (k*15+3+4) ((vG N.length O).flatMap odC++r).length=true:=fun r=>by rw[Nat.ble_eq,List.length_append,zy (k:=15) (fun _=>rfl),tw];omega
  have hcn:∀ r,((vG N.length (uV O T (spO p b (O T)))).flatMap odC++r)[k*15+2]?=some (.int .u8 ((T+1:Nat):Int)):=fun r=>by
   have h1:=tP (f:=odC) (k:=15) (r:=r) (fun _=>rfl) hgA;have h2:=eu h1 (j:=2) (v:=.int .u8 (((spO p b (O T)).n:Nat):Int)) rfl (by decide);rw[show (spO p b (O T)).n=T+1 from hnT] at h2;exact h2
  have hrl2:=tw N.length (uV O T (spO p b (O T)));have hR2:=hRR gl cl;clear hRR hRT hRA hset hgA hMu hOr hOn hOk hOi hRO' hcO hrl hgk hR;generalize vG N.length (uV O T (spO p b (O T)))=RA at *;generalize vG N.length O=RO at *;refine WC.adrawF [12] 14 (k:=?_)
  iterate 4 (first|refine Da ?_|refine Dc ?_)
  refine DQ.does (fun s _=>za (o':=k*15) rfl rfl hkN (Nat.zero_add _)) Dp.const ?_
  iterate 1 (first|refine Da ?_|refine Dc ?_)
  refine DQ.does (fun s _=>zx (vs:=zb (O T).z) (hc:=hcz _)) Dp.const ?_
  iterate 2 (first|refine Da ?_|refine Dc ?_)
  refine DQ.acall (hc:=hMi) (k:=?_)
  repeat (first|refine Da ?_|refine Df ?_)
  refine DQ.anil (k:=?_);intro sx _
  repeat (first|refine WO.does (zm rfl rfl rfl) ?_|refine WO.does (zL (cs:=zb 1) rfl rfl (by kernel_rfl)) ?_|refine WO.does (yv rfl rfl hb yD (decide_eq_false hb1)) ?_|refine WO.does (za (o':=k*15) rfl rfl hkN (Nat.zero_add _)) ?_|refine WO.stores (zH (vs:=zb ((O T).z*b%p)) (cs':=RA.flatMap odC++mkz (cl - N.length) (opC 0 0 0 0 0 0)) (hc:=hov _) (hle:=hle _)) ?_|refine Ta ?_|(refine Tm ?_;intro _)|refine WO.acall (hc:=hIn) (k:=?_)|refine Tc ?_|exact Tz)
  refine WO.acallX (hc:=hR2) (hR:=fun w1 hm=>⟨wN.mod hm.mod,RdF.ownO (Hs.sg hm) hrl2⟩) (k:=fun yy hyy=>?_);clear hyy;generalize yy 0=gR;clear yy;simp only[List.cons_append,List.nil_append]
  repeat (first|refine WO.does (zm rfl rfl rfl) ?_|refine Ta ?_|(refine Tm ?_;intro _)|refine Tc ?_|exact Tz)
  have hcvn:IntKind.i64.wrap ((T+1:Nat):Int)=((T+1:Nat):Int):=i64_in (by omega) (by omega)
  refine WC.loopI (σ:=Nat) (fun j=>j≤m) (fun j=>[(4,Sx.pt gZ),(9,.slice (some ⟨gl,0,none⟩) N.length cl),(14,.slice (some ⟨gA,0,none⟩) m m),(16,.slice (some ⟨gR,0,none⟩) m m),(18,.int .i64 (k:Int)),(21,.int .i64 (j:Int))])
   (fun _=>[⟨gZ,32,dtC ep d (.slice pz l.length cz) x (.slice px X.length cx)⟩,⟨gA,24,OA.flatMap zb⟩,⟨gR,24,R.flatMap zb⟩,⟨gl,46,RA.flatMap odC++mkz (cl - N.length) (opC 0 0 0 0 0 0)⟩]) (fun j=>m - j) 0 (fun j hj=>?_) (Nat.zero_le _)
  try dsimp only at hj ⊢
  by_cases hlj:j<m
  ·have hadd2:IntKind.i64.wrap ((j:Int)+1)=((j+1:Nat):Int):=zn (by omega) (by omega) (by omega);obtain⟨r,hr1,hrb,hrq⟩:=hRg j hlj;have hob:=hob j;have c1:cut (R.flatMap zb) (0+j*4) 4=zb r:=by rw[Nat.zero_add];exact zA zu hr1
   have c2:cut (OA.flatMap zb) (0+j*4) 4=zb (osN p q h l j):=by rw[Nat.zero_add];exact zA zu (hosg j hlj)
   generalize osN p q h l j=o at *
   repeat (first|refine Tw ?_|(refine Tm ?_;intro _)|exact Tz)
   refine WC.dT rfl (by omega) ?_
   repeat (first|refine Tw ?_|(refine Tm ?_;intro _)|exact Tz)
   by_cases hTF:F+m≤T
   ·skip
    refine WC.adraw 20 (k:=?_)
    iterate 2 (first|refine Da ?_|refine Dc ?_)
    refine DQ.does (fun s _=>za (o':=0+j*4) rfl rfl hlj rfl) Dp.const ?_;refine DQ.does (fun s _=>zx (vs:=zb r) (hc:=c1)) Dp.const ?_
    iterate 2 (first|refine Da ?_|refine Dc ?_)
    refine DQ.does (fun s _=>za (o':=0+j*4) rfl rfl hlj rfl) Dp.const ?_;refine DQ.does (fun s _=>zx (vs:=zb o) (hc:=c2)) Dp.const ?_;refine DQ.does (fun s _=>yv rfl rfl hrb hob (decide_eq_true (hrq.2 hTF))) Dp.const ?_
    iterate 2 (first|refine Da ?_|refine Dc ?_)
    refine DQ.does (fun s _=>za (o':=k*15) rfl rfl hkN (Nat.zero_add _)) Dp.const ?_
    iterate 1 (first|refine Da ?_|refine Dc ?_)
    refine DQ.does (fun s _=>zM (hc:=hcn _)) Dp.const ?_;refine DQ.does (fun s _=>zr rfl hcvn) Dp.const ?_
    iterate 3 (first|refine Da ?_|refine Dc ?_)
    refine DQ.does (fun s _=>z7 rfl rfl (by omega)) Dp.const ?_;refine DQ.does (fun s _=>pR rfl rfl) Dp.const ?_;refine DQ.anil (k:=?_);intro sx _
    repeat (first|refine WO.does (zf rfl rfl hadd2) ?_|refine Ta ?_|(refine Tm ?_;intro _)|refine Tc ?_|exact Tz)
    exact WX.metI (j+1) (hs:=⟨by show j+1≤m;omega,by show m - (j+1)<m - j;omega⟩)
   ·skip
    refine WC.adraw 20 (k:=?_)
    iterate 2 (first|refine Da ?_|refine Dc ?_)
    refine DQ.does (fun s _=>za (o':=0+j*4) rfl rfl hlj rfl) Dp.const ?_;refine DQ.does (fun s _=>zx (vs:=zb r) (hc:=c1)) Dp.const ?_
    iterate 2 (first|refine Da ?_|refine Dc ?_)
    refine DQ.does (fun s _=>za (o':=0+j*4) rfl rfl hlj rfl) Dp.const ?_;refine DQ.does (fun s _=>zx (vs:=zb o) (hc:=c2)) Dp.const ?_;refine DQ.does (fun s _=>yv rfl rfl hrb hob (decide_eq_false (fun e=>hTF (hrq.1 e)))) Dp.const ?_
    iterate 2 (first|refine Da ?_|refine Dc ?_)
    refine DQ.does (fun s _=>za (o':=k*15) rfl rfl hkN (Nat.zero_add _)) Dp.const ?_
    iterate 1 (first|refine Da ?_|refine Dc ?_)
    refine DQ.does (fun s _=>zM (hc:=hcn _)) Dp.const ?_;refine DQ.does (fun s _=>zr rfl hcvn) Dp.const ?_
    iterate 3 (first|refine Da ?_|refine Dc ?_)
    refine DQ.does (fun s _=>zD rfl rfl (by omega)) Dp.const ?_;refine DQ.does (fun s _=>pR rfl rfl) Dp.const ?_;refine DQ.anil (k:=?_);intro sx _
    repeat (first|refine WO.does (zf rfl rfl hadd2) ?_|refine Ta ?_|(refine Tm ?_;intro _)|refine Tc ?_|exact Tz)
    exact WX.metI (j+1) (hs:=⟨by show j+1≤m;omega,by show m - (j+1)<m - j;omega⟩)
  ·have hi4:j=m:=by omega
   subst hi4
   repeat (first|refine Tw ?_|(refine Tm ?_;intro _)|exact Tz)
   refine WC.dF rfl (by omega) ?_
   repeat (first|refine Ta ?_|(refine Tm ?_;intro _)|refine WO.acall (hc:=hA) (k:=?_)|refine Tc ?_|exact Tz)
   done
end
end Sx
end
end Go.Proofs.YtbhblpnjhkddbaaGreat
