/- Part 50 of the proof. -/
import Derived.Test.YtbhblpnjhkddbaaGreatE47
import Derived.Test.YtbhblpnjhkddbaaGreatE48
import Derived.Test.YtbhblpnjhkddbaaGreatE49
set_option linter.unusedSimpArgs false
set_option linter.unusedVariables false
set_option maxHeartbeats 8000000
namespace Go.Proofs.YtbhblpnjhkddbaaGreat
section
open Go Go.RowKit Go.BigFrame
namespace Sx
attribute [local irreducible] DQ DQS WC WO WX wd
abbrev dtC (ep d:Nat) (ps:Value) (x:Nat) (xs:Value):List Value:=[.int .u64 (ep:Int),.int .u8 (d:Int),ps,.int .u64 ((wd 0 x:Nat):Int),.int .u64 ((wd 1 x:Nat):Int),.int .u64 ((wd 2 x:Nat):Int),.int .u64 ((wd 3 x:Nat):Int),xs]
abbrev dtV (ep d:Nat) (ps:Value) (x:Nat) (xs:Value):Value:=.agg #[.int .u64 (ep:Int),.int .u8 (d:Int),ps,.int .u64 ((wd 0 x:Nat):Int),.int .u64 ((wd 1 x:Nat):Int),.int .u64 ((wd 2 x:Nat):Int),.int .u64 ((wd 3 x:Nat):Int),xs]
section
variable (p q g h:Nat)
theorem i2 (a n:Nat) (ha:a<zc) (hn:n<zc) (hp:p<zc):Fn Tryz.prog 12 [yR p q g h,ze a,ze n] Tr (Is (ze (exN p a n))):=by
 have hE:=vo p q g h a n ha hn hp;rw[show Is (rE (yD p a) (a ^ n%p))=Is (.tuple #[ze (exN p a n),.int .i64 (okE (yD p a))]) from rfl] at hE;generalize exN p a n=r at *;generalize okE (yD p a)=e at *;refine Fn.enter Tryz.func12 rfl rfl rfl ?_;intro w hw
 repeat (first|refine Ta ?_|(refine Tm ?_;intro _)|refine WO.acall (hc:=hE) (k:=?_)|refine Tc ?_|exact Tz)
 done
end
section
variable (p q g h:Nat) (F m:Nat) (pt:Option Addr) (c:Nat) (N:List (Nat × Nat)) (l:List Nat) (ep d:Nat) (ls:List Od) (pl:Option Addr) (cl:Nat)
theorem cW (hp:p<zc) (hq:q<zc) (hg:g<zc) (hh:h<zc) (hN:yC N) (hNl:N.length≤100) (hP:Pri q) (hs:vl p q g h (F:Int) (m:Int) N=true) (hl:l.length=F+m)
  (k:OpL p q h N l ep d ls) (hlen:F+m≤ls.length) (hle:ls.length≤N.length) :
  Fn Tryz.prog 16 [stV p q g h (F:Int) (m:Int) (.slice pt N.length c),.slice pl ls.length cl] (fun w=>RdF y7 (.slice pt N.length c) N w∧RdF odC (.slice pl ls.length cl) ls w)
   (Ex (fun s=>.tuple #[.slice (some ⟨s 0,0,none⟩) m m,.int .i64 0]) (fun s=>[⟨s 0,24,(osL p q h l m).flatMap zb⟩]) (fun _=>True)):=by
 have hsp:=yo hs;have hB:=k.raise hs hlen (by omega);obtain⟨_,hR⟩:=acl hB hsp.2.1 hsp.2.2.1 (M:=F+m) (by omega) k.ok;have hO:=rJ (q:=q) (ks:=rKs N.length (F+m) ls) (fun e=>by have:=hR.kl;rw[e] at this;simp at this;omega) hR.nd hR.lt (by rw[hR.kl];omega);have hkh:gIn p q h=true:=by
  have hs':=hs;unfold vl at hs';simp only[Bool.and_eq_true] at hs';exact (ii hs'.1.2).1
 have e1:=cM (M:=F+m) (m:=m) hP hkh k.n k.z hO (by rw[hR.kl];omega);have e2:=pI hP hO (Nat.le_refl _);refine (td p q g h pt c N pl cl ls F m hp hq hg hh hN hNl k.ok (by omega) hs hlen hle).weak (fun w hw=>hw) (fun v L hv=>?_);have hv1:=hv.1 hB;unfold oRY at hv1;rw[e1,e2] at hv1
 rcases hv1 with ⟨h0,_⟩|⟨_,g1,h1,h2⟩
 ·exact absurd rfl h0
 ·exact⟨fun _=>g1,h1,h2,trivial⟩
end
def ab3 (p q h:Nat) (N:List (Nat × Nat)) (X:List Nat) (i:Nat):Bool:=decide (X.getD i 0<q) && decide (exN p h (X.getD i 0)=ky N i)
def bn (p q h:Nat) (N:List (Nat × Nat)) (X:List Nat):Bool:=decide (X.length=N.length) && (List.range N.length).all (ab3 p q h N X)
def sF (p q g h:Nat) (f sec:Int) (N:List (Nat × Nat)) (l:List Nat) (d x:Nat) (X:List Nat):Bool:=nP p q g h f sec N l && bn p q h N X && qZ p q g h f sec N d l x
def dtN:Value:=.tuple #[dlV 0 0 (.slice none 0 0) (.slice none 0 0) (.slice none 0 0) 0 0,.bool false]
def DtP (b:Bool) (P:Value→List Ent→Prop):Value→List Ent→Prop:=fun v L=>(b=true→P v L)∧(b=false→v=dtN)
theorem DtP.no {b:Bool} {P:Value→List Ent→Prop} {L:List Ent} (h:b=false):DtP b P dtN L:=⟨fun e=>(by rw[h] at e;cases e),fun _=>rfl⟩
theorem DtP.ok {b:Bool} {P:Value→List Ent→Prop} {v:Value} {L:List Ent} (h:b=true) (k:P v L):DtP b P v L:=⟨fun _=>k,fun e=>(by rw[h] at e;cases e)⟩
section
variable (p q g h:Nat) (f sec:Int) (pt:Option Addr) (c:Nat) (N:List (Nat × Nat)) (ep d x:Nat) (pz:Option Addr) (cz:Nat) (l:List Nat) (px:Option Addr) (cx:Nat) (X:List Nat)
def dtY (p q g:Nat) (l:List Nat) (N:List (Nat × Nat)) (ep d x:Nat):Value→List Ent→Prop :=
 Ex (fun s=>.tuple #[dlV ep d (.slice (some ⟨s 0,0,none⟩) N.length N.length) (.slice (some ⟨s 1,0,none⟩) N.length N.length) (.slice (some ⟨s 2,0,none⟩) N.length N.length) (dSg p q g l N ep d x N.length).1 (dSg p q g l N ep d x N.length).2,.bool true])
  (fun s=>[⟨s 2,44,(dPs p q g l N ep d x N.length).flatMap pfC⟩,⟨s 1,24,(dYs p q l N N.length).flatMap zb⟩,⟨s 0,24,(dVs p q g l N.length).flatMap zb⟩]) (fun _=>True)
theorem oM (hp:p<zc) (hq:q<zc) (hg:g<zc) (hh:h<zc) (hN:yC N) (hl:∀ a∈l,a<zc) (hX:∀ a∈X,a<zc)
  (hf1 : -9223372036854775808≤f) (hf2:f≤9223372036854775807) (hs1 : -9223372036854775808≤sec) (hs2:sec≤9223372036854775807) (hd:d<256) (hx:x<zc) (hep:ep<18446744073709551616) :
  Fn Tryz.prog 8 [stV p q g h f sec (.slice pt N.length c),dtV ep d (.slice pz l.length cz) x (.slice px X.length cx)]
   (fun w=>RdF y7 (.slice pt N.length c) N w∧RdF zb (.slice pz l.length cz) l w∧RdF zb (.slice px X.length cx) X w) (DtP (sF p q g h f sec N l d x X) (dtY p q g l N ep d x)):=by
 have hF:=eE p q g h f sec pt c N pz cz l hp hq hg hh hN hl hf1 hf2 hs1 hs2;unfold sF;cases e1:nP p q g h f sec N l with
 | false =>
  rw[e1] at hF;refine Fn.enter Tryz.func8 rfl rfl rfl ?_;intro w hw;obtain⟨wN,wl,wX⟩:=hw
  repeat (first|refine Ta ?_|(refine Tm ?_;intro _)|refine WO.acallR (hc:=hF) (hR:=fun w1 hm=>⟨wN.mod hm.mod,wl.mod hm.mod⟩) (k:=?_)|refine Tc ?_|exact Tz)
  exact WX.ret2 rfl (by exact yU) (by exact zr rfl) [] Lle.nil (DtP.no rfl)
 | true =>
 rw[e1] at hF;obtain⟨hP,hS,hlen,hall,hNl,hln⟩:=uz e1;obtain⟨hn1,hn7,hnq,hf0,hsec1,hfs,hmg,hmh⟩:=yo hS
 by_cases e2:X.length=N.length
 case neg =>
  refine Fn.enter Tryz.func8 rfl rfl rfl ?_;intro w hw;obtain⟨wN,wl,wX⟩:=hw
  repeat (first|refine WO.does (ym rfl rfl (by omega)) ?_|refine Ta ?_|(refine Tm ?_;intro _)|refine WO.acallR (hc:=hF) (hR:=fun w1 hm=>⟨wN.mod hm.mod,wl.mod hm.mod⟩) (k:=?_)|refine Tc ?_|exact Tz)
  exact WX.ret2 rfl (by exact yU) (by exact zr rfl) [] Lle.nil (DtP.no (by unfold bn;rw[decide_eq_false e2];rfl))
 unfold bn;rw[decide_eq_true e2,Bool.true_and,Bool.true_and];refine Fn.enter Tryz.func8 rfl rfl rfl ?_;intro w hw;obtain⟨wN,wl,wX⟩:=hw
 repeat (first|refine WO.does (zu rfl rfl (by omega)) ?_|refine Ta ?_|(refine Tm ?_;intro _)|refine WO.acallR (hc:=hF) (hR:=fun w1 hm=>⟨wN.mod hm.mod,wl.mod hm.mod⟩) (k:=?_)|refine Tc ?_|exact Tz)
 rename_i gS gZ gR
 refine WC.loopI (σ:=Nat) (fun i=>i≤N.length∧∀ j,j<i→ab3 p q h N X j=true) (fun i=>[(2,Sx.pt gS),(3,Sx.pt gZ),(4,Sx.pt gR),(5,.bool false),(6,.int .i64 (i:Int))])
  (fun _=>[⟨gS,29,stC p q g h f sec (.slice pt N.length c)⟩,⟨gZ,32,dtC ep d (.slice pz l.length cz) x (.slice px X.length cx)⟩,⟨gR,37,dlC 0 0 (.slice none 0 0) (.slice none 0 0) (.slice none 0 0) 0 0⟩]) (fun i=>N.length - i) 0 (fun i hi=>?_) ⟨Nat.zero_le _,fun j hj=>by omega⟩
 try dsimp only at hi ⊢
 obtain⟨hi,ha⟩:=hi
 by_cases hlt:i<N.length
 ·obtain⟨k,hk⟩ : ∃ k,N[i]?=some k:=⟨_,List.getElem?_eq_getElem hlt⟩;have hltx:i<X.length:=by omega
  obtain⟨y,hy⟩ : ∃ y,X[i]?=some y:=⟨_,List.getElem?_eq_getElem hltx⟩;have hkb:=hN k (List.mem_of_getElem? hk);have hyb:=hX y (List.mem_of_getElem? hy);have hyg:X.getD i 0=y:=by rw[List.getD_eq_getElem?_getD,hy];rfl
  have hadd2:IntKind.i64.wrap ((i:Int)+1)=((i+1:Nat):Int):=zn (by omega) (by omega) (by omega);have hC:=ng y q hyb hq;have hPw:=i2 p q g h h y hh hyb hp;have hxl:=fp (p:=p) (a:=h) (n:=y) hp;have hso:ab3 p q h N X i=(decide (y<q) && decide (exN p h y=k.2)):=by unfold ab3;rw[hyg,bu hk]
  generalize exN p h y=ex at *;obtain⟨bX,oX,rfl,_,hsX⟩:=id wX |>.get hy
  have hcy:cut (X.flatMap zb) (oX+i*4 - oX) 4=zb y:=by rw[Nat.add_sub_cancel_left];exact zN zH hy
  repeat (first|refine Tw ?_|(refine Tm ?_;intro _)|exact Tz)
  refine WC.dT rfl (by omega) ?_
  repeat (first|refine Tw ?_|(refine Tm ?_;intro _)|exact Tz)
  by_cases n3:y<q
  case neg =>
   refine WC.adraw 30 (k:=?_)
   iterate 30 (first|refine DQ.does (fun s _=>za (o':=oX+i*4) rfl rfl hltx rfl) Dp.const ?_|refine DQ.does (fun s _=>zk (vs:=zb y) (hs:=hsX) (hle:=Nat.le_add_right _ _) (hc:=hcy)) Dp.const ?_|refine DQ.does (fun s _=>rH rfl rfl (pg.2 n3)) Dp.const ?_|refine Da ?_|refine DQ.acall (hc:=hC) (k:=?_)|refine Dc ?_)
   refine DQ.anil (k:=?_);intro sx _
   repeat (first|refine Tw ?_|(refine Tm ?_;intro _)|exact Tz)
   exact WX.ret2 rfl (by exact yU) (by exact zr rfl) [] Lle.nil (DtP.no (by
    rw[List.all_eq_false.2 ⟨i,List.mem_range.2 hlt,by rw[hso,decide_eq_false n3];simp⟩];rfl))
  have hge:¬ 0≤uo y q:=fun h'=>pg.1 h' n3;obtain⟨b,o,rfl,_,hs⟩:=id wN |>.get hk
  have hcx:cut (N.flatMap y7) (i*8+4) 4=zb k.2:=aH (zN uG hk) (j:=4) (m:=4) (us:=zb k.2) rfl (by decide);obtain⟨r,hr⟩ : ∃ r,decide (ex≠k.2)=r:=⟨_,rfl⟩;refine WC.adraw 30 (k:=?_)
  iterate 3 (first|refine Da ?_|refine Dc ?_)
  refine DQ.does (fun s _=>za (o':=oX+i*4) rfl rfl hltx rfl) Dp.const ?_;refine DQ.does (fun s _=>zk (vs:=zb y) (hs:=hsX) (hle:=Nat.le_add_right _ _) (hc:=hcy)) Dp.const ?_
  iterate 3 (first|refine Da ?_|refine Dc ?_)
  refine DQ.acall (hc:=hC) (k:=?_);refine DQ.does (fun s _=>vT rfl rfl hge) Dp.const ?_
  iterate 9 (first|refine Da ?_|refine Dc ?_)
  refine DQ.does (fun s _=>za (o':=oX+i*4) rfl rfl hltx rfl) Dp.const ?_;refine DQ.does (fun s _=>zk (vs:=zb y) (hs:=hsX) (hle:=Nat.le_add_right _ _) (hc:=hcy)) Dp.const ?_;refine DQ.acall (hc:=hPw) (k:=?_)
  iterate 3 (first|refine Da ?_|refine Dc ?_)
  refine DQ.does (fun s _=>za (o':=o+i*8) rfl rfl hlt rfl) Dp.const ?_;(first|refine Da ?_|refine Dc ?_);refine DQ.does (fun s _=>zk (vs:=zb k.2) (hs:=hs) (hle:=by omega) (hc:=by rw[show o+i*8+4 - o=i*8+4 by omega];exact hcx)) Dp.const ?_;refine DQ.does (fun s _=>rM rfl rfl hxl hkb.2 hr) Dp.const ?_;(first|refine Da ?_|refine Dc ?_);refine DQ.anil (k:=?_);intro sx _;cases r with
  | true =>
   have hne:=of_decide_eq_true hr
   repeat (first|refine Tw ?_|(refine Tm ?_;intro _)|exact Tz)
   exact WX.ret2 rfl (by exact yU) (by exact zr rfl) [] Lle.nil (DtP.no (by
    rw[List.all_eq_false.2 ⟨i,List.mem_range.2 hlt,by rw[hso,decide_eq_false hne];simp⟩];rfl))
  | false =>
   have heq:=Classical.not_not.1 (of_decide_eq_false hr)
   repeat (first|refine WO.does (zg rfl rfl hadd2) ?_|refine Ta ?_|(refine Tm ?_;intro _)|refine Tc ?_|exact Tz)
   exact WX.metI (i+1) (hs:=⟨⟨by show i+1≤N.length;omega,fun j hj=>by
    rcases Nat.lt_or_ge j i with h'|h'
    ·exact ha j h'
    ·rw[show j=i by omega,hso,decide_eq_true n3,decide_eq_true heq];rfl⟩,by show N.length - (i+1)<N.length - i;omega⟩)
 ·have hi2:i=N.length:=by omega
  subst hi2;rw[List.all_eq_true.2 (fun j hj=>ha j (List.mem_range.1 hj)),Bool.true_and];cases e3:qZ p q g h f sec N d l x with
  | false =>
   have hD:=aaN p q g h f sec pt c N ep d x pz cz l hp hq hg hh hN hNl hl hln hf1 hf2 hs1 hs2 hd hx e3
   repeat (first|refine Tw ?_|(refine Tm ?_;intro _)|exact Tz)
   refine WC.dF rfl (by omega) ?_
   repeat (first|refine WO.does (vk rfl rfl (by decide)) ?_|refine Ta ?_|(refine Tm ?_;intro _)|refine WO.acallR (hc:=hD) (hR:=fun w1 hm=>⟨wN.mod hm.mod,wl.mod hm.mod⟩) (k:=?_)|refine Tc ?_|exact Tz)
   exact WX.ret2 rfl (by exact yU) (by exact zr rfl) [] Lle.nil (DtP.no rfl)
  | true =>
   have hD:=iL p q g h f sec pt c N ep d x pz cz l hp hq hg hh hN hNl hl hln hf1 hf2 hs1 hs2 hd hx hep e3;unfold dtY;generalize dSg p q g l N ep d x N.length=sg at *;generalize dVs p q g l N.length=Vs at *;generalize dYs p q l N N.length=Ys at *;generalize dPs p q g l N ep d x N.length=Ps at *
   repeat (first|refine Tw ?_|(refine Tm ?_;intro _)|exact Tz)
   refine WC.dF rfl (by omega) ?_
   repeat (first|refine Tw ?_|(refine Tm ?_;intro _)|exact Tz)
   refine WO.acallX (hc:=hD) (hR:=fun w1 hm=>⟨wN.mod hm.mod,wl.mod hm.mod⟩) (k:=fun s1 hs1=>?_);clear hs1;generalize s1 0=gV;generalize s1 1=gY;generalize s1 2=gP;clear s1;simp only[List.cons_append,List.nil_append]
   repeat (first|refine WO.does (yQ rfl rfl rfl) ?_|refine Ta ?_|(refine Tm ?_;intro _)|refine Tc ?_|exact Tz)
   exact WX.ret2 rfl (by exact yU) (by exact zr rfl) [⟨gP,44,Ps.flatMap pfC⟩,⟨gY,24,Ys.flatMap zb⟩,⟨gV,24,Vs.flatMap zb⟩] (by repeat (first|exact Lle.nil|refine Lle.c ?_)) (DtP.ok rfl ⟨fun i=>if i=0 then gV else if i=1 then gY else gP,rfl,rfl,trivial⟩)
end
end Sx
end
section
open Go Go.RowKit Go.BigFrame
namespace Sx
theorem dA:[1,2,3].flatMap zb=[.int .u64 1,.int .u64 ((wd 1 0:Nat):Int),.int .u64 ((wd 2 0:Nat):Int),.int .u64 ((wd 3 0:Nat):Int)]++[.int .u64 2,.int .u64 ((wd 1 0:Nat):Int),.int .u64 ((wd 2 0:Nat):Int),.int .u64 ((wd 3 0:Nat):Int)]++[.int .u64 3,.int .u64 ((wd 1 0:Nat):Int),.int .u64 ((wd 2 0:Nat):Int),.int .u64 ((wd 3 0:Nat):Int)]:=by kernel_rfl
attribute [local irreducible] wd DQ DQS WO WC WX
theorem mU {p q g h:Nat} {f sec:Int} {N:List (Nat × Nat)} {ep d n x:Nat} (l:List Nat) (k:ri p q g h f sec N n x) (hp:p<zc) (hq:q<zc) (hep:ep<18446744073709551616) (hd:d<256) (hn:n<256) :
  ∃ z c s,opR p q g h f sec N ep d n x (dYs p q l N N.length)=.tuple #[.agg (odC ⟨ep,d,n,z,c,s⟩).toArray,.int .i64 0]∧z=h ^ (zO l n%q)%p∧er p q g h f sec N ep d (dYs p q l N N.length) ep d n z c s=true∧qe ⟨ep,d,n,z,c,s⟩:=by
 obtain⟨h1,h2,h3⟩:=qy (ep:=ep) (d:=d) (l:=l) k;have hk:=k.more.1;obtain⟨⟨hp1,_,_⟩,_⟩:=vK hk;have hq1:=k.pri.1;have ho:=aj (x:=x) (y:=(dYs p q l N N.length).getD (n - 1) 0) (h:=h) hp (by omega) hq (by omega) hep hd hn;exact⟨_,_,_,h1,h2,h3,ho⟩
theorem RsP.weakN {b:Bool} {P:Value→List Ent→Prop} {v:Value} {L:List Ent} (h:RsP b P v L) (hb:b=false):Is r7 v L:=h.2 hb
theorem jQ (p q g h x s1 s3 s4:Nat) (F m:Nat) (N:List (Nat × Nat)) (XL:List Value) (P:List Nat)
  (hKn:Fn Tryz.prog 23 [] Tr (Ex (fun s=>.tuple #[stV p q g h (F:Int) (m:Int) (.slice (some ⟨s 0,0,none⟩) 4 (s 1)),.slice (some ⟨s 2,0,none⟩) 4 (s 3)])
   (fun s=>[⟨s 2,76,XL++mkz (s 3 - 4) (tI 0 0)⟩,⟨s 0,72,N.flatMap y7++mkz (s 1 - 4) (tI 0 0)⟩]) (fun s=>4≤s 1∧4≤s 3)))
  (hNl:N.length=4) (hpl:P.length=3) (hFm:F+m=3) (hm2:m=2) (hp:p<zc) (hq:q<zc) (hh:h<zc) (hg:g<zc) (hx:x<zc) (hNo:yC N) (hPo:∀ a∈P,a<zc) (hP:Pri q)
  (hc0:∀ c,cut (XL++mkz (c - 4) (tI 0 0)) 0 4=zb x) (hc1:∀ c,cut (XL++mkz (c - 4) (tI 0 0)) 4 4=zb s1) (hc3:∀ c,cut (XL++mkz (c - 4) (tI 0 0)) 20 4=zb s3) (hc4:∀ c,cut (XL++mkz (c - 4) (tI 0 0)) 28 4=zb s4)
  (e3:P.flatMap zb=[.int .u64 1,.int .u64 ((wd 1 0:Nat):Int),.int .u64 ((wd 2 0:Nat):Int),.int .u64 ((wd 3 0:Nat):Int)]++[.int .u64 2,.int .u64 ((wd 1 0:Nat):Int),.int .u64 ((wd 2 0:Nat):Int),.int .u64 ((wd 3 0:Nat):Int)]++[.int .u64 3,.int .u64 ((wd 1 0:Nat):Int),.int .u64 ((wd 2 0:Nat):Int),.int .u64 ((wd 3 0:Nat):Int)])
  (kset:vl p q g h (F:Int) (m:Int) N=true) (kall:uk q P=true) (kdeal:qZ p q g h (F:Int) (m:Int) N 1 P x=true)
  (k1:ri p q g h (F:Int) (m:Int) N 1 s1) (k3:ri p q g h (F:Int) (m:Int) N 3 s3) (k4:ri p q g h (F:Int) (m:Int) N 4 s4) :
  Fn Tryz.prog 9 [] Tr (Is (.bool true)):=by
 have hF3:F≤3:=by omega
 have hDY:=fun gN cN gP=>iL p q g h (F:Int) (m:Int) (some ⟨gN,0,none⟩) cN N 7 1 x (some ⟨gP,0,none⟩) 3 P hp hq hg hh hNo (by omega) hPo (by omega) (by omega) (by omega) (by omega) (by omega) (by decide) hx (by decide) kdeal;obtain⟨z1,u1,t1,o1,ez1,c1,ok1⟩:=mU (ep:=7) (d:=1) P k1 hp hq (by decide) (by decide) (by decide);obtain⟨z3,u3,t3,o3,ez3,c3,ok3⟩:=mU (ep:=7) (d:=1) P k3 hp hq (by decide) (by decide) (by decide);obtain⟨z4,u4,t4,o4,ez4,c4,ok4⟩:=mU (ep:=7) (d:=1) P k4 hp hq (by decide) (by decide) (by decide);have hdY:=bK (q:=q) (l:=P) (N:=N) (n:=N.length) hp;have hYl:(dYs p q P N N.length).length=N.length:=by simp[dYs]
 have o9:opR p q g h (F:Int) (m:Int) N 7 1 9 s1 (dYs p q P N N.length)=opE 1:=by
  unfold opR;rw[if_neg];unfold opA vI;rw[hNl];simp
 have b1:=Nat.lt_trans k1.lt hq;have b3:=Nat.lt_trans k3.lt hq;have b4:=Nat.lt_trans k4.lt hq;have hO:=fun (n s:Nat) (hn:n<256) (hs:s<zc) gN cN gY sC sS pV pP=>fZ p q g h (F:Int) (m:Int) (some ⟨gN,0,none⟩) cN N 7 1 n s (some ⟨gY,0,none⟩) 4 (dYs p q P N N.length) sC sS pV pP hp hq hg hh hNo (by omega) (by omega) (by omega) (by omega) (by omega) hn hs hdY (by decide) (by decide);have hO1:=hO 1 s1 (by decide) b1;have hO3:=hO 3 s3 (by decide) b3;have hO4:=hO 4 s4 (by decide) b4;have hO9:=hO 9 s1 (by decide) b1;rw[o1] at hO1;rw[o3] at hO3;rw[o4] at hO4;rw[o9] at hO9;have hC:=fun (n z u t:Nat) (ok:qe ⟨7,1,n,z,u,t⟩) gN cN gY sC sS pV pP=>ko p q g h (F:Int) (m:Int) (some ⟨gN,0,none⟩) cN N 7 1 (some ⟨gY,0,none⟩) 4 (dYs p q P N N.length) sC sS 7 1 n z u t pV pP hp hq hg hh hNo (by omega) (by omega) (by omega) (by omega) (by omega) (by decide) (by decide) hdY ok.e ok.d ok.n ok.z ok.c ok.s;have hC1:=hC 1 z1 u1 t1 ok1;have hC4:=hC 4 z4 u4 t4 ok4;rw[c1] at hC1;rw[c4] at hC4;have hls:OpL p q h N P 7 1 [⟨7,1,4,z4,u4,t4⟩,⟨7,1,1,z1,u1,t1⟩,⟨7,1,3,z3,u3,t3⟩]:=by
  constructor
  ·intro o ho;simp only[List.mem_cons,List.not_mem_nil,or_false] at ho;rcases ho with rfl|rfl|rfl<;>assumption
  ·intro o ho;simp only[List.mem_cons,List.not_mem_nil,or_false] at ho;rcases ho with rfl|rfl|rfl<;>rfl
  ·intro o ho;simp only[List.mem_cons,List.not_mem_nil,or_false] at ho;rcases ho with rfl|rfl|rfl<;>rfl
  ·intro o ho;rw[hNl];simp only[List.mem_cons,List.not_mem_nil,or_false] at ho;rcases ho with rfl|rfl|rfl<;>exact⟨by dsimp only;decide,by dsimp only;decide⟩
  ·intro o ho;simp only[List.mem_cons,List.not_mem_nil,or_false] at ho;rcases ho with rfl|rfl|rfl<;>assumption
  ·show [4,1,3].Nodup;decide
 have hR3:=fun gN cN gL=>cW p q g h F m (some ⟨gN,0,none⟩) cN N P 7 1 _ (some ⟨gL,0,none⟩) 3 hp hq hg hh hNo (by omega) hP kset (by omega) hls (by show F+m≤3;omega) (by show 3≤N.length;omega);have hR2:=fun gN cN gL=>nr p q g h (some ⟨gN,0,none⟩) cN N (some ⟨gL,0,none⟩) 2 [⟨7,1,4,z4,u4,t4⟩,⟨7,1,1,z1,u1,t1⟩] F m hp hq hg hh hNo (by omega) (by show 2≤100;decide) kset (.inl (by show 2<F+m;omega));have hR1:=fun gN cN gL=>(td p q g h (some ⟨gN,0,none⟩) cN N (some ⟨gL,0,none⟩) 3 [⟨7,1,4,z4,u4,t4⟩,⟨7,1,4,z4,u4,t4⟩,⟨7,1,4,z4,u4,t4⟩] F m hp hq hg hh hNo (by omega) (by
  intro o ho;simp only[List.mem_cons,List.not_mem_nil,or_false] at ho;rcases ho with rfl|rfl|rfl<;>assumption) (by show 3≤100;decide) kset (by show F+m≤3;omega) (by show 3≤N.length;omega)).weak (fun w hw=>hw) (fun v L hv=>hv.weakN (k8 (k:=0) (i:=1) rfl rfl (by decide) rfl))
 have hSh:=fun gN cN gP=>bf p q g h (F:Int) (some ⟨gN,0,none⟩) cN N (some ⟨gP,0,none⟩) 3 P m hp hq hg hh hNo (by omega) hPo (by omega) (by omega) (by omega) (by omega) (by unfold iz;rw[kset,kall,decide_eq_true (show ((P.length:Nat):Int)=(F:Int)+(m:Int) by omega)];rfl);have hSN:=fun gA gB=>jf (osL p q h P m) (some ⟨gA,0,none⟩) (some ⟨gB,0,none⟩) m m (by simp[osL];omega);have hosl:(osL p q h P m).length=m:=by simp[osL]
 have hY4:(dYs p q P N 4).length=4:=by simp[dYs]
 clear hYl;simp only[hY4,hNl,hpl,hosl] at hDY hO1 hO3 hO4 hO9 hC1 hC4 hR3 hR2 hR1 hSh hSN;generalize osL p q h P m=OS at *;generalize dSg p q g P N 7 1 x 4=sg at *;generalize dVs p q g P 4=Vs at *;generalize dYs p q P N 4=Ys at *;generalize dPs p q g P N 7 1 x 4=Ps at *;generalize hP3:P.flatMap zb=P3 at *;subst hm2;clear o1 o3 o4 o9 c1 c3 c4 hO hC hls ez1 ez3 ez4 k1 k3 k4 kdeal;refine Fn.enter Tryz.func9 rfl rfl rfl ?_;intro w hw
 repeat (first|refine Tw ?_|(refine Tm ?_;intro _)|exact Tz)
 refine WO.acallX (hc:=hKn) (hR:=fun _ _=>trivial) (k:=fun yy hyy=>?_);clear hyy;generalize yy 0=gN;generalize yy 1=cN;generalize yy 2=gX;generalize yy 3=cX;clear yy;simp only[List.cons_append,List.nil_append]
 repeat (first|refine Ta ?_|(refine Tm ?_;intro _)|(refine WO.makes (zd (cs:=P3) rfl (by decide) (by rw[e3];first|done|rfl)) ?_;intro gP)|refine Tc ?_|exact Tz)
 replace hc0:=hc0 cX;replace hc1:=hc1 cX;replace hc3:=hc3 cX;replace hc4:=hc4 cX;generalize hXB:XL++mkz (cX - 4) (tI 0 0)=XB at *;generalize hNB:mkz (cN - 4) (tI 0 0)=NB at *;refine WC.adrawF [9] 11 (k:=?_)
 iterate 3 (first|refine Da ?_|refine Dc ?_)
 refine DQ.does (fun s _=>za (o':=0) rfl rfl (by decide) rfl) Dp.const ?_;(first|refine Da ?_|refine Dc ?_);refine DQ.does (fun s _=>zq (vs:=zb x) (hc:=hc0)) Dp.const ?_;refine DQ.callsE (fs:=fun _=>[]) (cs:=fun _=>[]) (R:=fun _ w=>RdF y7 (.slice (some ⟨gN,0,none⟩) 4 cN) N w∧RdF zb (.slice (some ⟨gP,0,none⟩) 3 3) P w) (vf:=fun _ s=>.tuple #[dlV 7 1 (.slice (some ⟨s 0,0,none⟩) 4 4) (.slice (some ⟨s 1,0,none⟩) 4 4) (.slice (some ⟨s 2,0,none⟩) 4 4) sg.1 sg.2,.int .i64 0]) (Nf:=fun _ s=>[⟨s 2,44,Ps.flatMap pfC⟩,⟨s 1,24,Ys.flatMap zb⟩,⟨s 0,24,Vs.flatMap zb⟩]) (S:=fun _ _=>True) (fun _=>[]) (fun _=>.nil) (fun _=>⟨fun _=>0,trivial⟩) (fun _ _=>hDY gN cN gP) (fun _=>rfl) (fun _=>rfl) (fun _=>by simp) (fun _ _ w hm=>⟨RdF.ownO (r:=NB) (Hs.sg hm) hNl,RdF.ownM (by have:=Hs.sg (g:=gP) (t:=24) (cs:=P3) hm;rwa [← hP3] at this) hpl⟩) Dp.const Dp.const Dp.const ?_
 try dsimp only[List.map_cons,List.map_nil,List.cons_append,List.nil_append,List.append_nil]
 repeat (first|refine Da ?_|refine Df ?_)
 refine DQ.anil (k:=?_);intro sx _;generalize sx 6 0=gV;generalize sx 6 1=gY;generalize sx 6 2=gQ
 repeat (first|refine Tw ?_|(refine Tm ?_;intro _)|exact Tz)
 refine WC.adrawF [9] 11 (k:=?_)
 iterate 3 (first|refine Da ?_|refine Dc ?_)
 refine DQ.does (fun s _=>za (o':=24) rfl rfl (by decide) rfl) Dp.const ?_;(first|refine Da ?_|refine Dc ?_);refine DQ.does (fun s _=>zq (vs:=zb s4) (hc:=hc4)) Dp.const ?_;refine DQ.acallM (hc:=hO4 gN cN gY sg.1 sg.2 _ _) (hR:=fun w1 hm=>⟨RdF.rdK (RdF.ownO (r:=NB) (Hs.sg hm) hNl),RdF.ownM (Hs.sg hm) hY4⟩) (k:=?_)
 repeat (first|refine Da ?_|refine Df ?_)
 refine DQ.anil (k:=?_);intro sx _
 repeat (first|refine Tw ?_|(refine Tm ?_;intro _)|exact Tz)
 refine WC.adrawF [9] 11 (k:=?_)
 iterate 3 (first|refine Da ?_|refine Dc ?_)
 refine DQ.does (fun s _=>za (o':=0) rfl rfl (by decide) rfl) Dp.const ?_;(first|refine Da ?_|refine Dc ?_);refine DQ.does (fun s _=>zq (vs:=zb s1) (hc:=hc1)) Dp.const ?_;refine DQ.acallM (hc:=hO1 gN cN gY sg.1 sg.2 _ _) (hR:=fun w1 hm=>⟨RdF.rdK (RdF.ownO (r:=NB) (Hs.sg hm) hNl),RdF.ownM (Hs.sg hm) hY4⟩) (k:=?_)
 repeat (first|refine Da ?_|refine Df ?_)
 refine DQ.anil (k:=?_);intro sx _
 repeat (first|refine Tw ?_|(refine Tm ?_;intro _)|exact Tz)
 refine WC.adrawF [9] 11 (k:=?_)
 iterate 3 (first|refine Da ?_|refine Dc ?_)
 refine DQ.does (fun s _=>za (o':=16) rfl rfl (by decide) rfl) Dp.const ?_;(first|refine Da ?_|refine Dc ?_);refine DQ.does (fun s _=>zq (vs:=zb s3) (hc:=hc3)) Dp.const ?_;refine DQ.acallM (hc:=hO3 gN cN gY sg.1 sg.2 _ _) (hR:=fun w1 hm=>⟨RdF.rdK (RdF.ownO (r:=NB) (Hs.sg hm) hNl),RdF.ownM (Hs.sg hm) hY4⟩) (k:=?_)
 repeat (first|refine Da ?_|refine Df ?_)
 refine DQ.anil (k:=?_);intro sx _
 repeat (first|refine Tw ?_|(refine Tm ?_;intro _)|exact Tz)
 refine WC.adrawF [9] 11 (k:=?_)
 iterate 3 (first|refine Da ?_|refine Dc ?_)
 refine DQ.does (fun s _=>za (o':=0) rfl rfl (by decide) rfl) Dp.const ?_;(first|refine Da ?_|refine Dc ?_);refine DQ.does (fun s _=>zq (vs:=zb s1) (hc:=hc1)) Dp.const ?_;refine DQ.acallM (hc:=hO9 gN cN gY sg.1 sg.2 _ _) (hR:=fun w1 hm=>⟨RdF.rdK (RdF.ownO (r:=NB) (Hs.sg hm) hNl),RdF.ownM (Hs.sg hm) hY4⟩) (k:=?_)
 repeat (first|refine Da ?_|refine Df ?_)
 refine DQ.anil (k:=?_);intro sx _
 repeat (first|refine Tw ?_|(refine Tm ?_;intro _)|exact Tz)
 have hl3:[(⟨7,1,4,z4,u4,t4⟩ : Od),⟨7,1,1,z1,u1,t1⟩,⟨7,1,3,z3,u3,t3⟩].length=3:=rfl;have hl2:[(⟨7,1,4,z4,u4,t4⟩ : Od),⟨7,1,1,z1,u1,t1⟩].length=2:=rfl;have hl1:[(⟨7,1,4,z4,u4,t4⟩ : Od),⟨7,1,4,z4,u4,t4⟩,⟨7,1,4,z4,u4,t4⟩].length=3:=rfl
 repeat (first|refine Ta ?_|(refine Tm ?_;intro _)|(refine WO.makes (zd (cs:=[(⟨7,1,4,z4,u4,t4⟩ : Od),⟨7,1,1,z1,u1,t1⟩,⟨7,1,3,z3,u3,t3⟩].flatMap odC) rfl (by decide) rfl) ?_;intro gL3)|refine Tc ?_|exact Tz)
 refine WO.acallX (hc:=hR3 gN cN gL3) (hR:=fun w1 hm=>⟨RdF.ownO (r:=NB) (Hs.sg hm) hNl,RdF.ownM (Hs.sg hm) hl3⟩) (k:=fun yy hyy=>?_);clear hyy;generalize yy 0=gRa;clear yy;simp only[List.cons_append,List.nil_append]
 repeat (first|refine Tw ?_|(refine Tm ?_;intro _)|exact Tz)
 refine WO.acallX (hc:=hSh gN cN gP) (hR:=fun w1 hm=>⟨RdF.ownO (r:=NB) (Hs.sg hm) hNl,RdF.ownM (by have:=Hs.sg (g:=gP) (t:=24) (cs:=P3) hm;rwa [← hP3] at this) hpl⟩) (k:=fun yy hyy=>?_);clear hyy;generalize yy 0=gSh;clear yy;simp only[List.cons_append,List.nil_append]
 repeat (first|refine Ta ?_|(refine Tm ?_;intro _)|(refine WO.makes (zd (cs:=[(⟨7,1,4,z4,u4,t4⟩ : Od),⟨7,1,1,z1,u1,t1⟩].flatMap odC) rfl (by decide) rfl) ?_;intro gL2)|refine Tc ?_|exact Tz)
 refine WO.acallR (hc:=hR2 gN cN gL2) (hR:=fun w1 hm=>⟨RdF.ownO (r:=NB) (Hs.sg hm) hNl,RdF.ownM (Hs.sg hm) hl2⟩) (k:=?_)
 repeat (first|refine Ta ?_|(refine Tm ?_;intro _)|(refine WO.makes (zd (cs:=[(⟨7,1,4,z4,u4,t4⟩ : Od),⟨7,1,4,z4,u4,t4⟩,⟨7,1,4,z4,u4,t4⟩].flatMap odC) rfl (by decide) rfl) ?_;intro gL1)|refine Tc ?_|exact Tz)
 refine WO.acallR (hc:=hR1 gN cN gL1) (hR:=fun w1 hm=>⟨RdF.ownO (r:=NB) (Hs.sg hm) hNl,RdF.ownM (Hs.sg hm) hl1⟩) (k:=?_)
 repeat (first|refine WO.does (yQ rfl rfl rfl) ?_|refine Ta ?_|(refine Tm ?_;intro _)|refine Tc ?_|exact Tz)
 refine WO.acallR (hc:=hC4 gN cN gY sg.1 sg.2 _ _) (hR:=fun w1 hm=>⟨RdF.rdK (RdF.ownO (r:=NB) (Hs.sg hm) hNl),RdF.ownM (Hs.sg hm) hY4⟩) (k:=?_)
 repeat (first|refine Tw ?_|(refine Tm ?_;intro _)|exact Tz)
 refine WO.acallR (hc:=hC1 gN cN gY sg.1 sg.2 _ _) (hR:=fun w1 hm=>⟨RdF.rdK (RdF.ownO (r:=NB) (Hs.sg hm) hNl),RdF.ownM (Hs.sg hm) hY4⟩) (k:=?_)
 repeat (first|refine WO.does (yQ rfl rfl rfl) ?_|refine Ta ?_|(refine Tm ?_;intro _)|refine Tc ?_|exact Tz)
 refine WO.acallR (hc:=hSN gRa gSh) (hR:=fun w1 hm=>⟨RdF.ownM (Hs.sg hm) hosl,RdF.ownM (Hs.sg hm) hosl⟩) (k:=?_)
 repeat (first|refine WO.does (yQ rfl rfl rfl) ?_|refine Ta ?_|(refine Tm ?_;intro _)|refine Tc ?_|exact Tz)
 done
theorem aak:yC knN:=by
 intro k hk;simp only[knN,List.mem_cons,List.not_mem_nil,or_false] at hk
 rcases hk with rfl|rfl|rfl|rfl<;>exact⟨oD,oD⟩
theorem aaT:∀ a∈[1,2,3],a<zc:=by
 intro a ha;simp only[List.mem_cons,List.not_mem_nil,or_false] at ha
 rcases ha with rfl|rfl|rfl<;>exact oD
theorem nK {n x:Nat} (h1:vI n knN=true) (h2:x<11) (h3:9 ^ x%23=shK knN n):ri 23 11 4 9 ((1:Nat):Int) ((2:Nat):Int) knN n x:=⟨abH,ae,h1,h2,h3⟩
theorem it:Fn Tryz.prog 9 [] Tr (Is (.bool true)) :=
 jQ 23 11 4 9 4 5 7 8 1 2 knN (knS.flatMap y7) [1,2,3] iK rfl rfl rfl rfl oD oD oD oD oD aak aaT abH (fun _=>rfl) (fun _=>rfl) (fun _=>rfl) (fun _=>rfl) dA ae (by decide) aai
  (nK (by decide) (by decide) (by decide)) (nK (by decide) (by decide) (by decide)) (nK (by decide) (by decide) (by decide))
end Sx
end
section
open Go Go.RowKit Go.BigFrame
namespace Sx
attribute [local irreducible] DQ DQS WC WO WX wd
theorem u9 {p q g h:Nat} {f sec:Int} {N:List (Nat × Nat)} {l X:List Nat} {d x:Nat} (hB:sF p q g h f sec N l d x X=true) :
  nP p q g h f sec N l=true∧X.length=N.length∧(∀ i,i<N.length→ri p q g h f sec N (i+1) (X.getD i 0))∧qZ p q g h f sec N d l x=true:=by
 unfold sF bn at hB;simp only[Bool.and_eq_true,decide_eq_true_eq] at hB;obtain⟨⟨h1,h2,h3⟩,h4⟩:=hB;obtain⟨hP,hS,hlen,hall,hNl,hln⟩:=uz h1;refine⟨h1,h2,fun i hi=>?_,h4⟩;have hs:=List.all_eq_true.1 h3 i (List.mem_range.2 hi);unfold ab3 at hs;simp only[Bool.and_eq_true,decide_eq_true_eq] at hs;have hk:kB p q h=true:=by
  have hS':=hS;unfold vl at hS';simp only[Bool.and_eq_true] at hS';exact hS'.1.2
 exact⟨hP,hS,by unfold vI;simp;omega,hs.1,by rw[← gr (ii hk).1];exact hs.2⟩
end Sx
end
section
open Go Go.RowKit Go.BigFrame
namespace Sx
theorem aw {g c n:Nat} (h:0<n):agV g c n n=.slice (some ⟨g,0,none⟩) n c:=by cases n with|zero=>omega|succ n=>rfl
theorem aA {t g:Nat} {B r:List Value} {n:Nat} (h:0<n):rwL t g B r n=[⟨g,t,B++r⟩]:=by cases n with|zero=>omega|succ n=>rfl
section
variable {p q g h:Nat} {f sec:Int} {N:List (Nat × Nat)} {ep d x:Nat} {l X:List Nat}
structure OpF (p q g h:Nat) (f sec:Int) (N:List (Nat × Nat)) (ep d:Nat) (l X:List Nat) (O:Nat→Od) (t:Nat):Prop where
 r:opR p q g h f sec N ep d (t+1) (X.getD t 0) (dYs p q l N N.length)=.tuple #[.agg (odC (O t)).toArray,.int .i64 0]
 ck:er p q g h f sec N ep d (dYs p q l N N.length) ep d (t+1) (O t).z (O t).c (O t).s=true
 ok:qe (O t)
 e:(O t).e=ep
 d:(O t).d=d
 n:(O t).n=t+1
 z:(O t).z=h ^ (zO l (t+1)%q)%p
theorem jG (hB:sF p q g h f sec N l d x X=true) (hp:p<zc) (hq:q<zc) (hep:ep<18446744073709551616) (hd:d<256) :
  ∃ O:Nat→Od,∀ t,t<N.length→OpF p q g h f sec N ep d l X O t:=by
 obtain⟨eF,hXl,hNS,eD⟩:=u9 hB;obtain⟨hP,hS,hlen,hall,hNl,hln⟩:=uz eF;obtain⟨hn1,hn7,hnq,hf0,hsec1,hfs,hmg,hmh⟩:=yo hS;refine⟨fun t=>opO p q h ep d (t+1) (X.getD t 0) ((dYs p q l N N.length).getD t 0),fun t ht=>?_⟩;have k:=hNS t ht;obtain⟨h1,h2,h3⟩:=qy (ep:=ep) (d:=d) (l:=l) k;obtain⟨⟨hp1,_,_⟩,_⟩:=vK k.more.1;exact⟨h1,h3,aj hp (by omega) hq (by omega) hep hd (by omega),rfl,rfl,rfl,h2⟩
theorem ab2 {O:Nat→Od} (hO:∀ t,t<N.length→OpF p q g h f sec N ep d l X O t) {ts:List Nat} (hnd:ts.Nodup) (hlt:∀ t∈ts,t<N.length):OpL p q h N l ep d (ts.map O):=by
 have key:∀ o∈ts.map O,∃ t,t<N.length∧o=O t:=fun o ho=>by
  obtain⟨t,ht,rfl⟩:=List.mem_map.1 ho;exact⟨t,hlt t ht,rfl⟩
 constructor
 ·intro o ho;obtain⟨t,ht,rfl⟩:=key o ho;exact (hO t ht).ok
 ·intro o ho;obtain⟨t,ht,rfl⟩:=key o ho;exact (hO t ht).e
 ·intro o ho;obtain⟨t,ht,rfl⟩:=key o ho;exact (hO t ht).d
 ·intro o ho;obtain⟨t,ht,rfl⟩:=key o ho;rw[(hO t ht).n];omega
 ·intro o ho;obtain⟨t,ht,rfl⟩:=key o ho;rw[(hO t ht).z,(hO t ht).n]
 ·rw[List.map_map,List.Nodup,List.pairwise_map];refine List.Pairwise.imp_of_mem (fun ha hb hab=>?_) hnd;show (O _).n≠(O _).n;rw[(hO _ (hlt _ ha)).n,(hO _ (hlt _ hb)).n];omega
end
end Sx
end
section
open Go Go.RowKit Go.BigFrame
namespace Sx
attribute [local irreducible] DQ DQS WC WO WX wd
theorem aaG {α:Type} {f:α→List Value} {K:Nat} (hf:∀ x,(f x).length=K) {N:List α} {k j:Nat} {x y:α} {r vs:List Value} (hx:N[k]?=some x) (hj:∀ r,over (f x++r) j vs=f y++r):over (N.flatMap f++r) (k*K+j) vs=(N.set k y).flatMap f++r:=by
 obtain⟨hk,e⟩:=List.getElem?_eq_some_iff.1 hx;have h1:N=N.take k++x::N.drop (k+1):=by rw[← e,← List.drop_eq_getElem_cons hk,List.take_append_drop]
 have h2:N.set k y=N.take k++y::N.drop (k+1):=List.set_eq_take_append_cons_drop.trans (if_pos hk);rw[h2]
 conv=>lhs;rw[h1]
 simp only[List.flatMap_append,List.flatMap_cons,List.append_assoc];rw[iZ (by rw[zB hf,List.length_take,Nat.min_eq_left (by omega)]),hj]
section
variable (p q g h:Nat) (F m:Nat) (pt:Option Addr) (c:Nat) (N:List (Nat × Nat)) (l:List Nat) (ep d:Nat) (ls:List Od) (pl:Option Addr) (cl:Nat)
theorem ce (hp:p<zc) (hq:q<zc) (hg:g<zc) (hh:h<zc) (hN:yC N) (hNl:N.length≤100) (hs:vl p q g h (F:Int) (m:Int) N=true)
  (hk:∀ o∈ls,qe o) (hlen:F+m≤ls.length) (hle:ls.length≤N.length) (hB:yB p q g h (F:Int) (m:Int) N ls=true)
  (hw:wtE q ((rKs N.length (F+m) ls).map (· + 1)) ((rKs N.length (F+m) ls).map (· + 1)).length=0) :
  Fn Tryz.prog 16 [stV p q g h (F:Int) (m:Int) (.slice pt N.length c),.slice pl ls.length cl] (fun w=>RdF y7 (.slice pt N.length c) N w∧RdF odC (.slice pl ls.length cl) ls w)
   (Ex (fun s=>.tuple #[.slice (some ⟨s 0,0,none⟩) m m,.int .i64 0]) (fun s=>[⟨s 0,24,(rsL p q ((rKs N.length (F+m) ls).map (· + 1)) (rZs N.length (F+m) ls) m).flatMap zb⟩]) (fun _=>True)):=by
 refine (td p q g h pt c N pl cl ls F m hp hq hg hh hN hNl hk (by omega) hs hlen hle).weak (fun w hw=>hw) (fun v L hv=>?_);have hv1:=hv.1 hB;unfold oRY at hv1;rw[hw] at hv1
 rcases hv1 with ⟨h0,_⟩|⟨_,g1,h1,h2⟩
 ·exact absurd rfl h0
 ·exact⟨fun _=>g1,h1,h2,trivial⟩
end
end Sx
end
end Go.Proofs.YtbhblpnjhkddbaaGreat
