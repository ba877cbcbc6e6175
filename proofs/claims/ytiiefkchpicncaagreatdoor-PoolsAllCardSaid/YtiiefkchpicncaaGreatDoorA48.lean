/- Part 48 of the proof. -/
import Derived.Test.YtiiefkchpicncaaGreatDoorA47
set_option linter.unusedSimpArgs false
set_option linter.unusedVariables false
set_option maxHeartbeats 8000000
namespace Go.Proofs.YtiiefkchpicncaaGreatDoor
section
open Go Go.RowKit Go.BigFrame
namespace Sx
attribute [local irreducible] DQ WC WO WX wd
def CsP (b:Bool) (p q g hh:Nat) (f sec:Int) (N:List (Nat × Nat)):Value→List Ent→Prop:=fun v M =>
 (b=true→∃ gN cN,v=.tuple #[stV p q g hh f sec (.slice (some ⟨gN,0,none⟩) N.length cN),.bool true]∧M=[⟨gN,96,N.flatMap yf++mkz (cN - N.length) (y7 0 0)⟩]∧N.length≤cN∧cN<9223372036854775808)∧(b=false→∃ cs:List Value,v=.tuple #[.agg cs.toArray,.bool false]∧cs.length=19∧cs.all Value.oneCell'=true)
theorem CsP.no {b:Bool} {p q g hh:Nat} {f sec:Int} {N:List (Nat × Nat)} {cs:List Value} {M:List Ent} (h:b=false) (hl:cs.length=19:=by rfl) (h1:cs.all Value.oneCell'=true:=by rfl):CsP b p q g hh f sec N (.tuple #[.agg cs.toArray,.bool false]) M:=⟨fun e=>(by rw[h] at e;cases e),fun _=>⟨cs,rfl,hl,h1⟩⟩
section
variable (p q g h0 a:Nat) (f sec:Int) (pk:Option Addr) (ck:Nat) (ks:List (Nat × Nat))
theorem adW (hp:p<zd) (hq:q<zd) (hg:g<zd) (hh0:h0<zd) (ha:a<zd) (hks:yz ks)
  (hf1 : -9223372036854775808≤f) (hf2:f≤9223372036854775807) (hs1 : -9223372036854775808≤sec) (hs2:sec≤9223372036854775807) :
  Fn Tryz.prog 7 [csV p q g h0 a f sec (.slice pk ks.length ck)] (fun w=>RdF yf (.slice pk ks.length ck) ks w) (CsP (nn p q g a f sec ks) p q g (exN p g a) f sec (csN p g a ks)):=by
 have hE:=v7 p q g h0 g a hg ha hp;have hPr:=aci p q g h0 a f sec (.slice pk ks.length ck) hp hq;have h0b:(0:Nat)<zd:=by decide
 rw[show Is (rE (yq p g) (g ^ a%p))=Is (.tuple #[zj (exN p g a),.int .i64 (okE (yq p g))]) from rfl] at hE;have hhb:exN p g a<zd:=tz hp;have hno:∀ b1,yq p g=false∨a=0∨7<ks.length∨rb p q=false→nn p q g a f sec ks=b1→b1=false:=fun b1 hc e=>by
  subst e;unfold nn
  rcases hc with h|h|h|h
  ·rw[h];simp
  ·rw[decide_eq_false (show ¬ a≠0 by omega)];simp
  ·rw[decide_eq_false (show ¬ ks.length≤7 by omega)];simp
  ·rw[h];simp
 cases e1:yq p g with
 | false =>
  have hc:=hno _ (.inl e1) rfl;rw[e1] at hE;rw[hc];have he:okE false≠0:=by decide
  generalize okE false=er at *;generalize exN p g a=hh at *;refine Fn.enter Tryz.func7 rfl rfl rfl ?_;intro w hw
  repeat (first|refine WO.does (vW rfl rfl he) ?_|refine Ta ?_|(refine Tm ?_;intro _)|refine WO.acall (hc:=hE) (k:=?_)|refine Tc ?_|exact Tz)
  exact WX.ret2 rfl (ym rfl Hs.a rfl rfl) (zo rfl) [] Lle.nil (CsP.no rfl)
 | true =>
 rw[e1] at hE;rw[show okE true=0 from rfl] at hE
 by_cases e2:a=0
 ·have hc:=hno _ (.inr (.inl e2)) rfl;rw[hc];generalize exN p g a=hh at *;refine Fn.enter Tryz.func7 rfl rfl rfl ?_;intro w hw
  repeat (first|refine WO.does (zB rfl rfl rfl) ?_|refine WO.does (zx (cs:=zb 0) rfl rfl rfl) ?_|refine WO.does (zt rfl rfl ha h0b (decide_eq_true e2)) ?_|refine Ta ?_|(refine Tm ?_;intro _)|refine WO.acall (hc:=hE) (k:=?_)|refine Tc ?_|exact Tz)
  exact WX.ret2 rfl (ym rfl Hs.a rfl rfl) (zo rfl) [] Lle.nil (CsP.no rfl)
 by_cases e3:7<ks.length
 ·have hc:=hno _ (.inr (.inr (.inl e3))) rfl;rw[hc];generalize exN p g a=hh at *;refine Fn.enter Tryz.func7 rfl rfl rfl ?_;intro w hw
  repeat (first|refine WO.does (zB rfl rfl rfl) ?_|refine WO.does (zx (cs:=zb 0) rfl rfl rfl) ?_|refine WO.does (zt rfl rfl ha h0b (decide_eq_false e2)) ?_|refine WO.does (tN rfl rfl Om) ?_|refine Ta ?_|(refine Tm ?_;intro _)|refine WO.acall (hc:=hE) (k:=?_)|refine Tc ?_|exact Tz)
  exact WX.ret2 rfl (ym rfl Hs.a rfl rfl) (zo rfl) [] Lle.nil (CsP.no rfl)
 cases e4:rb p q with
 | false =>
  have hc:=hno _ (.inr (.inr (.inr e4))) rfl;rw[hc];rw[e4] at hPr;generalize exN p g a=hh at *;refine Fn.enter Tryz.func7 rfl rfl rfl ?_;intro w hw
  repeat (first|refine WO.does (zB rfl rfl rfl) ?_|refine WO.does (zx (cs:=zb 0) rfl rfl rfl) ?_|refine WO.does (zt rfl rfl ha h0b (decide_eq_false e2)) ?_|refine WO.does (y6 rfl rfl Om) ?_|refine Ta ?_|(refine Tm ?_;intro _)|refine WO.acall (hc:=hE) (k:=?_)|refine WO.acall (hc:=hPr) (k:=?_)|refine Tc ?_|exact Tz)
  exact WX.ret2 rfl (ym rfl Hs.a rfl rfl) (zo rfl) [] Lle.nil (CsP.no rfl)
 | true =>
 rw[e4] at hPr;have hcast:nn p q g a f sec ks=((ks.all (my q) && (decide (ks=[]) || yq p (exN p g a))) && v6 p q g (exN p g a) f sec (csN p g a ks)):=by
  unfold nn;rw[e1,e4,decide_eq_true e2,decide_eq_true (show ks.length≤7 by omega)];rfl
 have hS:=fun pt c=>tL p q g (exN p g a) f sec pt c (csN p g a ks) hp hq hg hhb (jl hp) (by rw[ub];omega) hf1 hf2 hs1 hs2;rw[ub] at hS;have hE1:=fun (k:Nat × Nat) (hk:k.1<zd∧k.2<zd)=>v7 p q g (exN p g a) g k.1 hg hk.1 hp;have hE2:=fun (k:Nat × Nat) (hk:k.1<zd∧k.2<zd)=>v7 p q g (exN p g a) (exN p g a) k.2 hhb hk.2 hp;have hC:=fun (x:Nat) (hx:x<zd)=>lR x q hx hq;have hNl:=ub p g a ks;have hNt:∀ i k,ks[i]?=some k→((csN p g a ks).take i).flatMap yf++yf (csK p g (exN p g a) k)=((csN p g a ks).take (i+1)).flatMap yf:=fun i k hk=>by
  rw[List.take_add_one,fz hk,List.flatMap_append];simp
 have hNtl:∀ i,i≤ks.length→(((csN p g a ks).take i).flatMap yf).length=i*8:=fun i hi=>by rw[zK vJ,List.length_take,hNl];omega
 have hNall:(csN p g a ks).take ks.length=csN p g a ks:=by rw[← hNl,List.take_length]
 have hck:∀ k:Nat × Nat,csK p g (exN p g a) k=(exN p g k.1,exN p (exN p g a) k.2):=fun _=>rfl;generalize csN p g a ks=N at *;generalize hhh:exN p g a=hh at *;rw[hcast];clear hcast hno;refine Fn.enter Tryz.func7 rfl rfl rfl ?_;intro w hw
 repeat (first|refine WO.does (zB rfl rfl rfl) ?_|refine WO.does (zx (cs:=zb 0) rfl rfl rfl) ?_|refine WO.does (zt rfl rfl ha h0b (decide_eq_false e2)) ?_|refine WO.does (y6 rfl rfl Om) ?_|refine Ta ?_|(refine Tm ?_;intro _)|refine WO.acall (hc:=hE) (k:=?_)|refine WO.acall (hc:=hPr) (k:=?_)|refine Tc ?_|exact Tz)
 rename_i gZ gR gG gH gS
 refine WC.loopI (σ:=Nat × Nat × Nat) (fun s=>s.1≤ks.length∧(∀ k∈ks.take s.1,my q k=true)∧(0<s.1→yq p hh=true∧s.2.2<9223372036854775808∧s.1≤s.2.2)) (fun s=>[(1,Sx.pt gZ),(2,Sx.pt gR),(4,Sx.pt gG),(7,Sx.pt gS),(8,.int .i64 (s.1:Int))])
  (fun s=>⟨gZ,29,csC p q g h0 a f sec (.slice pk ks.length ck)⟩::⟨gR,33,stC 0 0 0 0 0 0 (.slice none 0 0)⟩::⟨gG,26,yB p q g hh⟩::⟨gS,33,stC p q g hh f sec (agV s.2.1 s.2.2 s.1 s.1)⟩::rwL 96 s.2.1 ((N.take s.1).flatMap yf) (mkz (s.2.2 - s.1) (y7 0 0)) s.1) (fun s=>ks.length - s.1) (0,0,0) (fun s hi=>?_) ⟨Nat.zero_le _,fun k hk=>absurd hk (by simp),fun h=>absurd h (by decide)⟩
 obtain⟨i,gN,cN⟩:=s
 try dsimp only at hi ⊢
 obtain⟨hi,hsc,hr⟩:=hi
 by_cases hlt:i<ks.length
 ·obtain⟨k,hk⟩ : ∃ k,ks[i]?=some k:=⟨_,List.getElem?_eq_getElem hlt⟩;have hkm:=List.mem_of_getElem? hk;have hkb:=hks k hkm;have hadd:IntKind.i64.wrap ((i:Int)+1)=((i+1:Nat):Int):=zn Om Om Om;obtain⟨b,o,rfl,_,hs⟩:=id hw |>.get hk
  have hcy:cut (ks.flatMap yf) (o+i*8 - o) 8=yf k:=by rw[Nat.add_sub_cancel_left];exact zQ vJ hk
  have hbad:my q k=false→(ks.all (my q) && (decide (ks=[]) || yq p hh) && v6 p q g hh f sec N)=false:=fun h=>by
   rw[show ks.all (my q)=false from List.all_eq_false.2 ⟨k,hkm,by rw[h];decide⟩];rfl
  by_cases t1:k.1=0
  ·have hb:=hbad (by unfold my;rw[decide_eq_false (show ¬ k.1≠0 by omega)];rfl)
   repeat (first|refine Tw ?_|(refine Tm ?_;intro _)|exact Tz)
   refine WC.dT rfl Om ?_
   repeat (first|refine WO.does (zc (o':=o+i*8) rfl rfl hlt rfl) ?_|refine WO.does (zm (vs:=yf k) (hs:=hs) (hle:=Nat.le_add_right _ _) (hc:=hcy)) ?_|refine WO.does (zx (cs:=zb 0) rfl rfl rfl) ?_|refine WO.does (zt rfl rfl hkb.1 h0b (decide_eq_true t1)) ?_|refine Ta ?_|(refine Tm ?_;intro _)|refine Tc ?_|exact Tz)
   exact WX.ret2 rfl (ym rfl Hs.a rfl rfl) (zo rfl) [] Lle.nil (CsP.no hb)
  by_cases t2:k.2=0
  ·have hb:=hbad (by unfold my;rw[decide_eq_false (show ¬ k.2≠0 by omega)];simp)
   repeat (first|refine Tw ?_|(refine Tm ?_;intro _)|exact Tz)
   refine WC.dT rfl Om ?_
   repeat (first|refine WO.does (zc (o':=o+i*8) rfl rfl hlt rfl) ?_|refine WO.does (zm (vs:=yf k) (hs:=hs) (hle:=Nat.le_add_right _ _) (hc:=hcy)) ?_|refine WO.does (zx (cs:=zb 0) rfl rfl rfl) ?_|refine WO.does (zt rfl rfl hkb.1 h0b (decide_eq_false t1)) ?_|refine WO.does (zt rfl rfl hkb.2 h0b (decide_eq_true t2)) ?_|refine Ta ?_|(refine Tm ?_;intro _)|refine Tc ?_|exact Tz)
   exact WX.ret2 rfl (ym rfl Hs.a rfl rfl) (zo rfl) [] Lle.nil (CsP.no hb)
  have hC1:=hC k.1 hkb.1;have hC2:=hC k.2 hkb.2
  by_cases t3:k.1<q
  case neg =>
   have hb:=hbad (by unfold my;rw[decide_eq_false t3];simp);have t3':=pQ.2 t3
   repeat (first|refine Tw ?_|(refine Tm ?_;intro _)|exact Tz)
   refine WC.dT rfl Om ?_
   repeat (first|refine WO.does (zc (o':=o+i*8) rfl rfl hlt rfl) ?_|refine WO.does (zm (vs:=yf k) (hs:=hs) (hle:=Nat.le_add_right _ _) (hc:=hcy)) ?_|refine WO.does (zx (cs:=zb 0) rfl rfl rfl) ?_|refine WO.does (zt rfl rfl hkb.1 h0b (decide_eq_false t1)) ?_|refine WO.does (zt rfl rfl hkb.2 h0b (decide_eq_false t2)) ?_|refine WO.does (uG rfl rfl t3') ?_|refine Ta ?_|(refine Tm ?_;intro _)|refine WO.acall (hc:=hC1) (k:=?_)|refine Tc ?_|exact Tz)
   exact WX.ret2 rfl (ym rfl Hs.a rfl rfl) (zo rfl) [] Lle.nil (CsP.no hb)
  have t3' : ¬ 0≤uF k.1 q:=fun h=>pQ.1 h t3
  by_cases t4:k.2<q
  case neg =>
   have hb:=hbad (by unfold my;rw[decide_eq_false t4];simp);have t4':=pQ.2 t4
   repeat (first|refine Tw ?_|(refine Tm ?_;intro _)|exact Tz)
   refine WC.dT rfl Om ?_
   repeat (first|refine WO.does (zc (o':=o+i*8) rfl rfl hlt rfl) ?_|refine WO.does (zm (vs:=yf k) (hs:=hs) (hle:=Nat.le_add_right _ _) (hc:=hcy)) ?_|refine WO.does (zx (cs:=zb 0) rfl rfl rfl) ?_|refine WO.does (zt rfl rfl hkb.1 h0b (decide_eq_false t1)) ?_|refine WO.does (zt rfl rfl hkb.2 h0b (decide_eq_false t2)) ?_|refine WO.does (yv rfl rfl t3') ?_|refine WO.does (uG rfl rfl t4') ?_|refine Ta ?_|(refine Tm ?_;intro _)|refine WO.acall (hc:=hC1) (k:=?_)|refine WO.acall (hc:=hC2) (k:=?_)|refine Tc ?_|exact Tz)
   exact WX.ret2 rfl (ym rfl Hs.a rfl rfl) (zo rfl) [] Lle.nil (CsP.no hb)
  have t4' : ¬ 0≤uF k.2 q:=fun h=>pQ.1 h t4;have hX1:=hE1 k hkb;have hX2:=hE2 k hkb;rw[show Is (rE (yq p g) (g ^ k.1%p))=Is (.tuple #[zj (exN p g k.1),.int .i64 (okE (yq p g))]) from rfl,e1,show okE true=0 from rfl] at hX1;rw[show Is (rE (yq p hh) (hh ^ k.2%p))=Is (.tuple #[zj (exN p hh k.2),.int .i64 (okE (yq p hh))]) from rfl] at hX2;have hgood:my q k=true:=by unfold my;rw[decide_eq_true t1,decide_eq_true t2,decide_eq_true t3,decide_eq_true t4];rfl
  have hNi:=hNt i k hk;rw[hck k] at hNi;have hNl2:=hNtl i hi;generalize exN p g k.1=u1 at *;generalize exN p hh k.2=u2 at *;cases t5:yq p hh with
  | false =>
   have hb:(ks.all (my q) && (decide (ks=[]) || yq p hh) && v6 p q g hh f sec N)=false:=by
    rw[t5,decide_eq_false (fun e=>by rw[e] at hkm;cases hkm)];simp
   rw[t5] at hX2 hb;have he:okE false≠0:=by decide
   generalize okE false=er at *
   repeat (first|refine Tw ?_|(refine Tm ?_;intro _)|exact Tz)
   refine WC.dT rfl Om ?_
   repeat (first|refine WO.does (zc (o':=o+i*8) rfl rfl hlt rfl) ?_|refine WO.does (zm (vs:=yf k) (hs:=hs) (hle:=Nat.le_add_right _ _) (hc:=hcy)) ?_|refine WO.does (zx (cs:=zb 0) rfl rfl rfl) ?_|refine WO.does (zt rfl rfl hkb.1 h0b (decide_eq_false t1)) ?_|refine WO.does (zt rfl rfl hkb.2 h0b (decide_eq_false t2)) ?_|refine WO.does (yv rfl rfl t3') ?_|refine WO.does (yv rfl rfl t4') ?_|refine WO.does (zB rfl rfl rfl) ?_|refine WO.does (vW rfl rfl he) ?_|refine Ta ?_|(refine Tm ?_;intro _)|refine WO.acall (hc:=hC1) (k:=?_)|refine WO.acall (hc:=hC2) (k:=?_)|refine WO.acall (hc:=hX1) (k:=?_)|refine WO.acall (hc:=hX2) (k:=?_)|refine Tc ?_|exact Tz)
   exact WX.ret2 rfl (ym rfl Hs.a rfl rfl) (zo rfl) [] Lle.nil (CsP.no hb)
  | true =>
  rw[t5,show okE true=0 from rfl] at hX2;have hsc2:∀ x∈ks.take (i+1),my q x=true:=fun x hx=>by
   rw[List.take_add_one,hk] at hx
   rcases List.mem_append.1 hx with h|h
   ·exact hsc x h
   ·rw[Option.toList_some,List.mem_singleton] at h;rw[h];exact hgood
  rcases i with _|i
  ·have hN1:yf (u1,u2)=(N.take (0+1)).flatMap yf:=by simpa using hNi
   try dsimp only[agV,rwL]
   repeat (first|refine Tw ?_|(refine Tm ?_;intro _)|exact Tz)
   refine WC.dT rfl Om ?_
   repeat (first|refine WO.does (zc (o':=o+i*8) rfl rfl hlt rfl) ?_|refine WO.does (zm (vs:=yf k) (hs:=hs) (hle:=Nat.le_add_right _ _) (hc:=hcy)) ?_|refine WO.does (zx (cs:=zb 0) rfl rfl rfl) ?_|refine WO.does (zt rfl rfl hkb.1 h0b (decide_eq_false t1)) ?_|refine WO.does (zt rfl rfl hkb.2 h0b (decide_eq_false t2)) ?_|refine WO.does (yv rfl rfl t3') ?_|refine WO.does (yv rfl rfl t4') ?_|refine WO.does (zB rfl rfl rfl) ?_|refine WO.does (uS (cs:=yf (u1,u2)) (h2:=rfl)) ?_|refine Ta ?_|(refine Tm ?_;intro _)|refine WO.acall (hc:=hC1) (k:=?_)|refine WO.acall (hc:=hC2) (k:=?_)|refine WO.acall (hc:=hX1) (k:=?_)|refine WO.acall (hc:=hX2) (k:=?_)|(refine WO.makes (zh (cs:=yf (u1,u2)) rfl (by decide) rfl) ?_;intro _)|refine Tc ?_|exact Tz)
   refine WO.appNZ (z:=y7 0 0) (ys:=yf (u1,u2)) (m:=1) rfl rfl rfl (Rds.own (m:=8) Hs.here rfl) rfl (by decide) (by decide) (by decide) (by decide) (fun g1 c1 a2 a3=>?_);rw[hN1]
   repeat (first|refine WO.does (zi rfl rfl hadd) ?_|refine Ta ?_|(refine Tm ?_;intro _)|refine Tc ?_|exact Tz)
   exact WX.metI (0+1,g1,c1) (hs:=⟨⟨by show 0+1≤ks.length;omega,hsc2,fun _=>⟨rfl,a2,a3⟩⟩,by show ks.length - (0+1)<ks.length - 0;omega⟩)
  ·obtain⟨_,r1,r2⟩:=hr Om
   try dsimp only[agV,rwL]
   repeat (first|refine Tw ?_|(refine Tm ?_;intro _)|exact Tz)
   refine WC.dT rfl Om ?_
   repeat (first|refine WO.does (zc (o':=o+i*8) rfl rfl hlt rfl) ?_|refine WO.does (zm (vs:=yf k) (hs:=hs) (hle:=Nat.le_add_right _ _) (hc:=hcy)) ?_|refine WO.does (zx (cs:=zb 0) rfl rfl rfl) ?_|refine WO.does (zt rfl rfl hkb.1 h0b (decide_eq_false t1)) ?_|refine WO.does (zt rfl rfl hkb.2 h0b (decide_eq_false t2)) ?_|refine WO.does (yv rfl rfl t3') ?_|refine WO.does (yv rfl rfl t4') ?_|refine WO.does (zB rfl rfl rfl) ?_|refine WO.does (uS (cs:=yf (u1,u2)) (h2:=rfl)) ?_|refine Ta ?_|(refine Tm ?_;intro _)|refine WO.acall (hc:=hC1) (k:=?_)|refine WO.acall (hc:=hC2) (k:=?_)|refine WO.acall (hc:=hX1) (k:=?_)|refine WO.acall (hc:=hX2) (k:=?_)|(refine WO.makes (zh (cs:=yf (u1,u2)) rfl (by decide) rfl) ?_;intro _)|refine Tc ?_|exact Tz)
   refine WO.appKZ (z:=y7 0 0) (m:=1) (l:=i+1+1) rfl rfl rfl (xs:=(N.take (i+1)).flatMap yf) (ys:=yf (u1,u2)) hNl2 r2 Pk.a (Rds.own (m:=8) Hs.here rfl) rfl rfl rfl Om r1 Om (by decide) (by decide) (fun g1 c1 a2 a3=>?_);rw[hNi]
   repeat (first|refine WO.does (zi rfl rfl hadd) ?_|refine Ta ?_|(refine Tm ?_;intro _)|refine Tc ?_|exact Tz)
   exact WX.metI (i+1+1,g1,c1) (hs:=⟨⟨by show i+1+1≤ks.length;omega,hsc2,fun _=>⟨rfl,a2,a3⟩⟩,by show ks.length - (i+1+1)<ks.length - (i+1);omega⟩)
 ·have hi3:i=ks.length:=by omega
  subst hi3;rw[List.take_length] at hsc;rw[hNall];have hall:ks.all (my q)=true:=List.all_eq_true.2 hsc
  rcases Nat.eq_zero_or_pos ks.length with h0|hpos
  ·have hS0:=hS none 0;have hN0:N=[]:=List.eq_nil_of_length_eq_zero Om;have hsf:v6 p q g hh f sec N=false:=by
    cases hsb:v6 p q g hh f sec N with
    | false=>rfl
    | true=>have:=(vu hsb).1;omega
   rw[hsf,h0] at hS0;rw[hsf,Bool.and_false];rw[show agV gN cN ks.length ks.length=.slice none 0 0 by rw[h0];rfl,show ∀ B r,rwL 96 gN B r ks.length=[] from fun B r=>by rw[h0];rfl]
   repeat (first|refine Tw ?_|(refine Tm ?_;intro _)|exact Tz)
   refine WC.dF rfl Om ?_
   repeat (first|refine Tw ?_|(refine Tm ?_;intro _)|exact Tz)
   refine WC.adraw 3 (k:=?_)
   iterate 3 (first|refine DQ.acallR (hc:=hS0) (hR:=fun w1 hm=>by rw[hN0];exact RdF.nilV) (k:=?_)|refine Da ?_|refine Dc ?_)
   refine DQ.anil (k:=?_);intro sx _
   repeat (first|refine Tw ?_|(refine Tm ?_;intro _)|exact Tz)
   exact WX.ret2 rfl (ym rfl Hs.a rfl rfl) (zo rfl) [] Lle.nil (CsP.no rfl)
  ·obtain⟨t5,r1,r2⟩:=hr hpos;rw[yd hpos,ye hpos];have hSp:=hS (some ⟨gN,0,none⟩) cN;rw[hall,t5,Bool.or_true,Bool.true_and,Bool.true_and];have hNl' : N.length=ks.length:=hNl;cases hsb:v6 p q g hh f sec N with
   | false =>
    rw[hsb] at hSp
    repeat (first|refine Tw ?_|(refine Tm ?_;intro _)|exact Tz)
    refine WC.dF rfl Om ?_
    repeat (first|refine Tw ?_|(refine Tm ?_;intro _)|exact Tz)
    refine WC.adraw 3 (k:=?_)
    iterate 3 (first|refine DQ.acallR (hc:=hSp) (hR:=fun w1 hm=>RdF.ownO (Hs.sg hm) hNl') (k:=?_)|refine Da ?_|refine Dc ?_)
    refine DQ.anil (k:=?_);intro sx _
    repeat (first|refine Tw ?_|(refine Tm ?_;intro _)|exact Tz)
    exact WX.ret2 rfl (ym rfl Hs.a rfl rfl) (zo rfl) [] Lle.nil (CsP.no rfl)
   | true =>
    rw[hsb] at hSp
    repeat (first|refine Tw ?_|(refine Tm ?_;intro _)|exact Tz)
    refine WC.dF rfl Om ?_
    repeat (first|refine Tw ?_|(refine Tm ?_;intro _)|exact Tz)
    refine WC.adraw 3 (k:=?_)
    iterate 3 (first|refine DQ.acallR (hc:=hSp) (hR:=fun w1 hm=>RdF.ownO (Hs.sg hm) hNl') (k:=?_)|refine Da ?_|refine Dc ?_)
    refine DQ.anil (k:=?_);intro sx _
    repeat (first|refine Tw ?_|(refine Tm ?_;intro _)|exact Tz)
    exact WX.ret2 rfl (ym rfl Hs.a rfl rfl) (zo rfl) [⟨gN,96,N.flatMap yf++mkz (cN - ks.length) (y7 0 0)⟩] (Lle.c Lle.nil) ⟨fun _=>⟨gN,cN,by rw[hNl'];rfl,by rw[hNl'],by omega,r1⟩,fun e=>by cases e⟩
end
section
open Kp
variable {P:Program} {w0:World} {gs:List Nat} {n:Nat} {fl:List Nat} {Q:Exit→Act→World→Prop} {ops:List Oper} {L0:List Ent}
variable {tail rest:List Oper} {i:Nat} {C:zI→Prop} {K:zI→List (Nat × Value)} {N:zI→List (Nat × Ent)}
variable {d:Nat} {op:Op} {ty:TypeId} {pos:String} {after:Array Edge} {gd:Option (Nat × Bool)}
theorem DQ.acallX {f:FuncId} [Cal P f] {xs:Array Operand} {ats:Array TypeId} {vs:List Value} {Rq:World→Prop} {vf:(Nat→Nat)→Value} {Nf:(Nat→Nat)→List Ent} (hc:Fn P f vs Rq (Ex vf Nf (fun _=>True))) (hR:∀ w,Mr w0 gs L0 w→Rq w) (ha:∀ s,evs (K s) xs.toList=some vs:=by (intro s;rfl))
  (k:DQ P w0 gs n fl Q ops L0 tail (i+1) rest (fun s=>C s∧True) (fun s=>(d,vf (s i))::K s) (fun s=>(Nf (s i)).map (fun e=>(i,e))++N s))
  (hfl:fl.contains i=false:=by rfl) (hw:∀ s,wk ops (K s) gd=some true:=by intro _;rfl) (hd:Nat.blt d n=true:=by rfl) :
  DQ P w0 gs n fl Q ops L0 tail i (⟨some d,.call { callee:=.value (.func f),args:=xs,argTypes:=ats },ty,pos,after,gd⟩::rest) C K N :=
 DQ.callsE (fs:=fun _=>[]) (cs:=fun _=>[]) (R:=fun _=>Rq) (vf:=fun _ x=>vf x) (Nf:=fun _ x=>Nf x) (S:=fun _ _=>True) (fun _=>[]) (fun _=>.nil)
  (fun _=>⟨fun _=>0,trivial⟩) (fun _ _=>hc) (fun _=>rfl) ha (fun _=>by simp) (fun _ _ w h=>hR w h) Dp.const Dp.const Dp.const k hfl hw hd
end
def RdE {α:Type} (f:α→List Value) (v:Value) (xs:List α) (w:World):Prop:=∃ pt c,v=.slice pt xs.length c∧(xs=[]∨∃ b o,pt=some ⟨b,o,none⟩∧Seg w b o (xs.flatMap f))
theorem RdE.get {α:Type} {f:α→List Value} {pz:Option Addr} {n c:Nat} {xs:List α} {w:World} (h:RdE f (.slice pz n c) xs w) {i:Nat} {x:α} (hx:xs[i]?=some x):∃ b o,pz=some ⟨b,o,none⟩∧n=xs.length∧Seg w b o (xs.flatMap f):=by
 obtain⟨p,c',e,h⟩:=h;cases e
 rcases h with rfl|⟨b,o,rfl,hs⟩
 ·simp at hx
 ·exact⟨b,o,rfl,rfl,hs⟩
theorem RdE.mod {α:Type} {f:α→List Value} {v:Value} {xs:List α} {w w' : World} (h:RdE f v xs w) (hm:Mod [] w w'):RdE f v xs w':=by
 obtain⟨pt,c,e,h⟩:=h;exact⟨pt,c,e,h.imp id (fun ⟨b,o,e2,hs⟩=>⟨b,o,e2,hs.mod hm (by simp)⟩)⟩
theorem RdF.toE {α:Type} {f:α→List Value} {v:Value} {xs:List α} {w:World} (h:RdF f v xs w):RdE f v xs w:=by
 obtain⟨pt,c,e,h⟩:=h;exact⟨pt,c,e,h.imp (fun h=>h.2) id⟩
abbrev aag (n:Nat):List Value:=[.int .u32 (n:Int)]
abbrev dqC (d:Nat) (ps:Value):List Value:=[.int .u8 (d:Int),ps]
abbrev dqV (d:Nat) (ps:Value):Value:=.agg #[.int .u8 (d:Int),ps]
def dqP (q:Nat) (P:List Nat) (i:Nat):Nat:=if i<P.length then P.getD i 0%q else 0
def dqL (q:Nat) (P:List Nat) (n:Nat):List Nat:=(List.range n).map (dqP q P)
def dqD (n d:Nat):Nat:=1+d%n
theorem om (q:Nat) (P:List Nat) (n:Nat):(dqL q P n).length=n:=by simp[dqL]
theorem aaM {q:Nat} {P:List Nat} (hq:0<q) (i:Nat):dqP q P i<q:=by
 unfold dqP;split
 ·exact Nat.mod_lt _ hq
 ·exact hq
theorem aaT {q:Nat} {P:List Nat} {n:Nat} (hq:0<q):∀ a∈dqL q P n,a<q:=fun a h=>by
 obtain⟨i,_,rfl⟩:=List.mem_map.1 h;exact aaM hq i
theorem abD {q:Nat} {P:List Nat} {n:Nat} (hq:1<q):tP q (dqL q P n)=true:=by
 unfold tP;rw[decide_eq_true hq,Bool.true_and,List.all_eq_true];exact fun a h=>decide_eq_true (aaT Om a h)
section
variable {p q g a:Nat} {F m:Nat} {ks:List (Nat × Nat)}
theorem mo (hc:dE p q g a (F:Int) (m:Int) ks) (d:Nat) (P:List Nat) (hn:0<ks.length):jT p q g (exN p g a) (F:Int) (m:Int) (csN p g a ks) (dqD ks.length d) (dqL q P (F+m)) (ks.getD (dqD ks.length d - 1) (0,0)).1=true:=by
 have hS:=hc.set;have hsp:=vu hS;have hdn:d%ks.length<ks.length:=Nat.mod_lt _ hn;unfold jT;rw[hS,abD Om,decide_eq_true (show (((dqL q P (F+m)).length:Nat):Int)=(F:Int)+(m:Int) by rw[om];omega)];have hnode:pJ (dqD ks.length d) (csN p g a ks)=true:=by
  unfold pJ dqD;rw[ub,decide_eq_true Om,decide_eq_true Om];rfl
 rw[hnode];simp only[Bool.true_and];have hi:dqD ks.length d - 1<ks.length:=by unfold dqD;omega
 obtain⟨k,hk⟩ : ∃ k,ks[dqD ks.length d - 1]?=some k:=⟨_,List.getElem?_eq_getElem hi⟩;have hkq:=hc.scr k (List.mem_of_getElem? hk);rw[show ks.getD (dqD ks.length d - 1) (0,0)=k by rw[List.getD_eq_getElem?_getD,hk];rfl];have hsg:sgK (csN p g a ks) (dqD ks.length d)=exN p g k.1:=by
  unfold sgK;rw[List.getD_eq_getElem?_getD,fz hk];rfl
 rw[hsg];obtain⟨kg,_⟩:=nA hS;have hgI:=(ed kg).1;unfold acU;rw[ui Om hkq.1,y8 hgI,dD hgI,decide_eq_true rfl];rfl
end
section
variable (p q g h0 a:Nat) (F m:Nat) (pk:Option Addr) (ck:Nat) (ks:List (Nat × Nat)) (pt:Option Addr) (c:Nat) (ep d:Nat) (pP:Option Addr) (cP:Nat) (P:List Nat)
theorem acL (hc:dE p q g a (F:Int) (m:Int) ks) (hn:0<ks.length) (hp:p<zd) (hq:q<zd) (hg:g<zd) (hh0:h0<zd) (ha:a<zd) (hks:yz ks) (hP:∀ x∈P,x<4294967296) (hd:d<256) (hep:ep<18446744073709551616) :
  Fn Tryz.prog 10 [csV p q g h0 a (F:Int) (m:Int) (.slice pk ks.length ck),stV p q g (exN p g a) (F:Int) (m:Int) (.slice pt ks.length c),.int .u64 (ep:Int),dqV d (.slice pP P.length cP)]
   (fun w=>RdF yf (.slice pk ks.length ck) ks w∧RdF yf (.slice pt ks.length c) (csN p g a ks) w∧RdE aag (.slice pP P.length cP) P w)
   (Ex (fun s => dlV ep (dqD ks.length d) (.slice (some ⟨s 0, 0, none⟩) ks.length ks.length) (.slice (some ⟨s 1, 0, none⟩) ks.length ks.length) (.slice (some ⟨s 2, 0, none⟩) ks.length ks.length)
       (dSg p q g (dqL q P (F+m)) (csN p g a ks) ep (dqD ks.length d) (ks.getD (dqD ks.length d - 1) (0,0)).1 ks.length).1 (dSg p q g (dqL q P (F+m)) (csN p g a ks) ep (dqD ks.length d) (ks.getD (dqD ks.length d - 1) (0,0)).1 ks.length).2)
    (fun s=>[⟨s 2,86,(dPs p q g (dqL q P (F+m)) (csN p g a ks) ep (dqD ks.length d) (ks.getD (dqD ks.length d - 1) (0,0)).1 ks.length).flatMap pfC⟩,⟨s 1,24,(dYs p q (dqL q P (F+m)) (csN p g a ks) ks.length).flatMap zb⟩,⟨s 0,24,(dVs p q g (dqL q P (F+m)) ks.length).flatMap zb⟩]) (fun _=>True)):=by
 have hS:=hc.set;have hsp:=vu hS;have hq1:1<q:=by omega
 have hdn:d%ks.length<ks.length:=Nat.mod_lt _ hn;have hk7:=hc.len;have hhb:exN p g a<zd:=tz hp;have hdD:dqD ks.length d=1+d%ks.length:=rfl;have hiD:dqD ks.length d - 1<ks.length:=by omega
 obtain⟨k,hk⟩ : ∃ k,ks[dqD ks.length d - 1]?=some k:=⟨_,List.getElem?_eq_getElem hiD⟩;have hkb:=hks k (List.mem_of_getElem? hk);have hB:=mo hc d P hn;rw[show ks.getD (dqD ks.length d - 1) (0,0)=k by rw[List.getD_eq_getElem?_getD,hk];rfl] at hB ⊢;have hll:=om q P (F+m);have hF5:(F:Int)+(m:Int)≤5:=hsp.2.2.2.2.2.1;have hD:=fun (gz cz:Nat)=>abY p q g (exN p g a) (F:Int) (m:Int) pt c (csN p g a ks) ep (dqD ks.length d) k.1 (some ⟨gz,0,none⟩) cz (dqL q P (F+m)) hp hq hg hhb (jl hp) (by rw[ub];omega) (fun x hx=>Nat.lt_trans (aaT Om x hx) hq) (by rw[hll];omega) Om Om Om Om Om hkb.1 hep hB;rw[ub,hll] at hD;have hcv8:IntKind.u8.wrap (ks.length:Int)=(ks.length:Int):=u8_in Om Om;have hrm8:((d:Int)).tmod (ks.length:Int)=((d%ks.length:Nat):Int):=rfl;have hadd8:IntKind.u8.wrap ((1:Int)+((d%ks.length:Nat):Int))=((dqD ks.length d:Nat):Int):=qe Om Om Om;have hsb8:IntKind.u8.wrap (((dqD ks.length d:Nat):Int) - 1)=((dqD ks.length d - 1:Nat):Int):=qe Om Om Om;have hFm:IntKind.i64.wrap ((F:Int)+(m:Int))=((F+m:Nat):Int):=zn Om Om Om;have hq64:q<18446744073709551616:=by have:=hc.q32;omega
 have hwq:wd 0 q=q:=aaC hq64;have hLs:∀ i,(dqL q P i).flatMap zb++zb (dqP q P i)=(dqL q P (i+1)).flatMap zb:=fun i=>by unfold dqL;rw[rz,List.flatMap_append];simp
 have hLl:∀ i,((dqL q P i).flatMap zb).length=i*4:=fun i=>by rw[zK ya,om]
 have hPi:∀ i,dqP q P i<18446744073709551616:=fun i=>Nat.lt_trans (aaM Om i) hq64;have hnw:∀ i,zb (dqP q P i)=[.int .u64 ((dqP q P i:Nat):Int),.int .u64 ((wd 1 0:Nat):Int),.int .u64 ((wd 2 0:Nat):Int),.int .u64 ((wd 3 0:Nat):Int)]:=fun i=>bW (hPi i);clear hS hB;refine Fn.enter Tryz.func10 rfl rfl rfl ?_;intro w hw;obtain⟨wK,wN,wP⟩:=hw
 repeat (first|refine WO.does (zD rfl hcv8) ?_|refine WO.does (vG rfl rfl Om hrm8) ?_|refine WO.does (zi rfl rfl hadd8) ?_|refine Ta ?_|(refine Tm ?_;intro _)|refine Tc ?_|exact Tz)
 rename_i gZ gS gX gR
 refine WC.loopI (σ:=Nat × Nat × Nat) (fun s=>s.1≤F+m∧(0<s.1→s.2.2<9223372036854775808∧s.1≤s.2.2)) (fun s=>[(2,.int .u64 (ep:Int)),(4,Sx.pt gZ),(5,Sx.pt gS),(7,Sx.pt gX),(8,Sx.pt gR),(9,.int .u8 ((dqD ks.length d:Nat):Int)),(10,agV s.2.1 s.2.2 s.1 s.1),(11,.int .i64 (s.1:Int))])
  (fun s=>⟨gZ,29,csC p q g h0 a (F:Int) (m:Int) (.slice pk ks.length ck)⟩::⟨gS,33,stC p q g (exN p g a) (F:Int) (m:Int) (.slice pt ks.length c)⟩::⟨gX,51,dqC d (.slice pP P.length cP)⟩::⟨gR,47,dlC 0 0 (.slice none 0 0) (.slice none 0 0) (.slice none 0 0) 0 0⟩::rwL 24 s.2.1 ((dqL q P s.1).flatMap zb) (mkz (s.2.2 - s.1) (zb 0)) s.1) (fun s=>F+m - s.1) (0,0,0) (fun s hi=>?_) ⟨Nat.zero_le _,fun h=>absurd h (by decide)⟩
 obtain⟨i,gl,cl⟩:=s
 try dsimp only at hi ⊢
 obtain⟨hi,hr⟩:=hi
 by_cases hlt:i<F+m
 ·have hadd2:IntKind.i64.wrap ((i:Int)+1)=((i+1:Nat):Int):=zn Om Om Om;have hNs:=hLs i;have hNl:=hLl i;have hw4:=hnw i
  by_cases hiP:i<P.length
  ·obtain⟨x,hx⟩ : ∃ x,P[i]?=some x:=⟨_,List.getElem?_eq_getElem hiP⟩;have hxb:=hP x (List.mem_of_getElem? hx);have hv:dqP q P i=x%q:=by unfold dqP;rw[if_pos hiP,List.getD_eq_getElem?_getD,hx];rfl
   rw[hv] at hw4 hNs;have hcvx:IntKind.u64.wrap (x:Int)=(x:Int):=u64_in Om Om;have hrmx:((x:Int)).tmod ((wd 0 q:Nat):Int)=((x%q:Nat):Int):=by rw[hwq];rfl
   have hwq0:((wd 0 q:Nat):Int)≠0:=by rw[hwq];omega
   obtain⟨bP,oP,rfl,_,hsP⟩:=id wP |>.get hx
   obtain⟨io,hio⟩ : ∃ io,oP+i*1=io:=⟨_,rfl⟩;have hiol:oP≤io:=by omega
   have hcP:(P.flatMap aag)[io - oP]?=some (.int .u32 (x:Int)):=by
    rw[← hio,Nat.add_sub_cancel_left,Nat.mul_one];have h1:=zQ (f:=aag) (k:=1) (fun _=>rfl) hx;rw[Nat.mul_one] at h1;have h2:=vp (j:=0) (v:=.int .u32 (x:Int)) h1 rfl;rwa [Nat.add_zero] at h2
   generalize x%q=v at *
   rcases i with _|i
   ·have hB1:[.int .u64 ((v:Nat):Int),.int .u64 ((wd 1 0:Nat):Int),.int .u64 ((wd 2 0:Nat):Int),.int .u64 ((wd 3 0:Nat):Int)]=(dqL q P (0+1)).flatMap zb:=by have h:=hNs;rw[hw4] at h;exact h
    try dsimp only[agV,rwL]
    repeat (first|refine WO.does (zi rfl rfl hFm) ?_|refine Ta ?_|(refine Tm ?_;intro _)|refine Tc ?_|exact Tz)
    refine WC.dT rfl Om ?_
    repeat (first|refine WO.does (vB rfl rfl Om) ?_|refine Ta ?_|(refine Tm ?_;intro _)|refine Tc ?_|exact Tz)
    refine WC.adraw 12 (k:=?_)
    iterate 3 (first|refine Da ?_|refine Dc ?_)
    refine DQ.does (fun s _=>zc (o':=io) rfl rfl hiP hio) Dp.const ?_;refine DQ.does (fun s _=>zl (hs:=hsP) (hle:=hiol) (hc:=hcP)) Dp.const ?_;refine DQ.does (fun s _=>zD rfl hcvx) Dp.const ?_
    iterate 4 (first|refine Da ?_|refine Dc ?_)
    refine DQ.does (fun s _=>vG rfl rfl hwq0 hrmx) Dp.const ?_
    iterate 1 (first|refine Da ?_|refine Dc ?_)
    refine DQ.anil (k:=?_);intro sx _
    repeat (first|refine WO.does (zx (cs:=[.int .u64 ((v:Nat):Int),.int .u64 ((wd 1 0:Nat):Int),.int .u64 ((wd 2 0:Nat):Int),.int .u64 ((wd 3 0:Nat):Int)]) rfl rfl (by kernel_rfl)) ?_|refine Ta ?_|(refine Tm ?_;intro _)|(refine WO.makes (zh (cs:=[.int .u64 ((v:Nat):Int),.int .u64 ((wd 1 0:Nat):Int),.int .u64 ((wd 2 0:Nat):Int),.int .u64 ((wd 3 0:Nat):Int)]) rfl (by decide) rfl) ?_;intro _)|refine Tc ?_|exact Tz)
    refine WO.appNZ (z:=zb 0) (ys:=[.int .u64 ((v:Nat):Int),.int .u64 ((wd 1 0:Nat):Int),.int .u64 ((wd 2 0:Nat):Int),.int .u64 ((wd 3 0:Nat):Int)]) (m:=1) rfl rfl rfl (Rds.own (m:=4) Hs.here rfl) rfl (by decide) (by decide) (by decide) (by decide) (fun g1 c1 a2 a3=>?_);rw[hB1]
    repeat (first|refine WO.does (zi rfl rfl hadd2) ?_|refine Ta ?_|(refine Tm ?_;intro _)|refine Tc ?_|exact Tz)
    exact WX.metI (0+1,g1,c1) (hs:=⟨⟨by show 0+1≤F+m;omega,fun _=>⟨a2,a3⟩⟩,by show F+m - (0+1)<F+m - 0;omega⟩)
   ·obtain⟨r1,r2⟩:=hr Om;have hB2:(dqL q P (i+1)).flatMap zb++[.int .u64 ((v:Nat):Int),.int .u64 ((wd 1 0:Nat):Int),.int .u64 ((wd 2 0:Nat):Int),.int .u64 ((wd 3 0:Nat):Int)]=(dqL q P (i+1+1)).flatMap zb:=by have h:=hNs;rw[hw4] at h;exact h
    try dsimp only[agV,rwL]
    repeat (first|refine WO.does (zi rfl rfl hFm) ?_|refine Ta ?_|(refine Tm ?_;intro _)|refine Tc ?_|exact Tz)
    refine WC.dT rfl Om ?_
    repeat (first|refine WO.does (vB rfl rfl Om) ?_|refine Ta ?_|(refine Tm ?_;intro _)|refine Tc ?_|exact Tz)
    refine WC.adraw 12 (k:=?_)
    iterate 3 (first|refine Da ?_|refine Dc ?_)
    refine DQ.does (fun s _=>zc (o':=io) rfl rfl hiP hio) Dp.const ?_;refine DQ.does (fun s _=>zl (hs:=hsP) (hle:=hiol) (hc:=hcP)) Dp.const ?_;refine DQ.does (fun s _=>zD rfl hcvx) Dp.const ?_
    iterate 4 (first|refine Da ?_|refine Dc ?_)
    refine DQ.does (fun s _=>vG rfl rfl hwq0 hrmx) Dp.const ?_
    iterate 1 (first|refine Da ?_|refine Dc ?_)
    refine DQ.anil (k:=?_);intro sx _
    repeat (first|refine WO.does (zx (cs:=[.int .u64 ((v:Nat):Int),.int .u64 ((wd 1 0:Nat):Int),.int .u64 ((wd 2 0:Nat):Int),.int .u64 ((wd 3 0:Nat):Int)]) rfl rfl (by kernel_rfl)) ?_|refine Ta ?_|(refine Tm ?_;intro _)|(refine WO.makes (zh (cs:=[.int .u64 ((v:Nat):Int),.int .u64 ((wd 1 0:Nat):Int),.int .u64 ((wd 2 0:Nat):Int),.int .u64 ((wd 3 0:Nat):Int)]) rfl (by decide) rfl) ?_;intro _)|refine Tc ?_|exact Tz)
    refine WO.appKZ (z:=zb 0) (m:=1) (l:=i+1+1) rfl rfl rfl (xs:=(dqL q P (i+1)).flatMap zb) (ys:=[.int .u64 ((v:Nat):Int),.int .u64 ((wd 1 0:Nat):Int),.int .u64 ((wd 2 0:Nat):Int),.int .u64 ((wd 3 0:Nat):Int)]) hNl r2 Pk.a (Rds.own (m:=4) Hs.here rfl) rfl rfl rfl Om r1 Om (by decide) (by decide) (fun g1 c1 a2 a3=>?_);rw[hB2]
    repeat (first|refine WO.does (zi rfl rfl hadd2) ?_|refine Ta ?_|(refine Tm ?_;intro _)|refine Tc ?_|exact Tz)
    exact WX.metI (i+1+1,g1,c1) (hs:=⟨⟨by show i+1+1≤F+m;omega,fun _=>⟨a2,a3⟩⟩,by show F+m - (i+1+1)<F+m - (i+1);omega⟩)
  ·have hv:dqP q P i=0:=by unfold dqP;rw[if_neg hiP]
   rw[hv] at hw4 hNs;generalize hv0:(0:Nat)=v at hw4 hNs;subst hv0
   rcases i with _|i
   ·have hB1:[.int .u64 0,.int .u64 ((wd 1 0:Nat):Int),.int .u64 ((wd 2 0:Nat):Int),.int .u64 ((wd 3 0:Nat):Int)]=(dqL q P (0+1)).flatMap zb:=by have h:=hNs;rw[hw4] at h;exact h
    try dsimp only[agV,rwL]
    repeat (first|refine WO.does (zi rfl rfl hFm) ?_|refine Ta ?_|(refine Tm ?_;intro _)|refine Tc ?_|exact Tz)
    refine WC.dT rfl Om ?_
    repeat (first|refine WO.does (yh rfl rfl Om) ?_|refine Ta ?_|(refine Tm ?_;intro _)|refine Tc ?_|exact Tz)
    repeat (first|refine WO.does (zx (cs:=[.int .u64 0,.int .u64 ((wd 1 0:Nat):Int),.int .u64 ((wd 2 0:Nat):Int),.int .u64 ((wd 3 0:Nat):Int)]) rfl rfl (by kernel_rfl)) ?_|refine Ta ?_|(refine Tm ?_;intro _)|(refine WO.makes (zh (cs:=[.int .u64 0,.int .u64 ((wd 1 0:Nat):Int),.int .u64 ((wd 2 0:Nat):Int),.int .u64 ((wd 3 0:Nat):Int)]) rfl (by decide) rfl) ?_;intro _)|refine Tc ?_|exact Tz)
    refine WO.appNZ (z:=zb 0) (ys:=[.int .u64 0,.int .u64 ((wd 1 0:Nat):Int),.int .u64 ((wd 2 0:Nat):Int),.int .u64 ((wd 3 0:Nat):Int)]) (m:=1) rfl rfl rfl (Rds.own (m:=4) Hs.here rfl) rfl (by decide) (by decide) (by decide) (by decide) (fun g1 c1 a2 a3=>?_);rw[hB1]
    repeat (first|refine WO.does (zi rfl rfl hadd2) ?_|refine Ta ?_|(refine Tm ?_;intro _)|refine Tc ?_|exact Tz)
    exact WX.metI (0+1,g1,c1) (hs:=⟨⟨by show 0+1≤F+m;omega,fun _=>⟨a2,a3⟩⟩,by show F+m - (0+1)<F+m - 0;omega⟩)
   ·obtain⟨r1,r2⟩:=hr Om;have hB2:(dqL q P (i+1)).flatMap zb++[.int .u64 0,.int .u64 ((wd 1 0:Nat):Int),.int .u64 ((wd 2 0:Nat):Int),.int .u64 ((wd 3 0:Nat):Int)]=(dqL q P (i+1+1)).flatMap zb:=by have h:=hNs;rw[hw4] at h;exact h
    try dsimp only[agV,rwL]
    repeat (first|refine WO.does (zi rfl rfl hFm) ?_|refine Ta ?_|(refine Tm ?_;intro _)|refine Tc ?_|exact Tz)
    refine WC.dT rfl Om ?_
    repeat (first|refine WO.does (yh rfl rfl Om) ?_|refine Ta ?_|(refine Tm ?_;intro _)|refine Tc ?_|exact Tz)
    repeat (first|refine WO.does (zx (cs:=[.int .u64 0,.int .u64 ((wd 1 0:Nat):Int),.int .u64 ((wd 2 0:Nat):Int),.int .u64 ((wd 3 0:Nat):Int)]) rfl rfl (by kernel_rfl)) ?_|refine Ta ?_|(refine Tm ?_;intro _)|(refine WO.makes (zh (cs:=[.int .u64 0,.int .u64 ((wd 1 0:Nat):Int),.int .u64 ((wd 2 0:Nat):Int),.int .u64 ((wd 3 0:Nat):Int)]) rfl (by decide) rfl) ?_;intro _)|refine Tc ?_|exact Tz)
    refine WO.appKZ (z:=zb 0) (m:=1) (l:=i+1+1) rfl rfl rfl (xs:=(dqL q P (i+1)).flatMap zb) (ys:=[.int .u64 0,.int .u64 ((wd 1 0:Nat):Int),.int .u64 ((wd 2 0:Nat):Int),.int .u64 ((wd 3 0:Nat):Int)]) hNl r2 Pk.a (Rds.own (m:=4) Hs.here rfl) rfl rfl rfl Om r1 Om (by decide) (by decide) (fun g1 c1 a2 a3=>?_);rw[hB2]
    repeat (first|refine WO.does (zi rfl rfl hadd2) ?_|refine Ta ?_|(refine Tm ?_;intro _)|refine Tc ?_|exact Tz)
    exact WX.metI (i+1+1,g1,c1) (hs:=⟨⟨by show i+1+1≤F+m;omega,fun _=>⟨a2,a3⟩⟩,by show F+m - (i+1+1)<F+m - (i+1);omega⟩)
 ·have hi3:i=F+m:=by omega
  subst hi3;have hFp:0<F+m:=by have:=hsp.2.2.2.2.1;omega
  rw[yd hFp,ye hFp];obtain⟨bK,oK,rfl,_,hsK⟩:=id wK |>.get hk
  have hcK:cut (ks.flatMap yf) (oK+(dqD ks.length d - 1)*8 - oK) 4=zb k.1:=kR hk;have hDl:=hD gl cl
  repeat (first|refine WO.does (zi rfl rfl hFm) ?_|refine Ta ?_|(refine Tm ?_;intro _)|refine Tc ?_|exact Tz)
  refine WC.dF rfl Om ?_
  repeat (first|refine Tw ?_|(refine Tm ?_;intro _)|exact Tz)
  refine WC.adrawF [14] 16 (k:=?_)
  iterate 7 (first|refine Da ?_|refine Dc ?_)
  refine DQ.does (fun s _=>zG rfl rfl hsb8) Dp.const ?_;refine DQ.does (fun s _=>zc (o':=oK+(dqD ks.length d - 1)*8) rfl rfl hiD rfl) Dp.const ?_
  iterate 1 (first|refine Da ?_|refine Dc ?_)
  refine DQ.does (fun _ _=>zm (vs:=zb k.1) (hs:=hsK) (hle:=Nat.le_add_right _ _) (hc:=hcK)) Dp.const ?_;refine DQ.acallX (hc:=hDl) (hR:=fun w1 hm=>⟨wN.mod hm.mod,RdF.ownO (Hs.sg hm) (om q P (F+m))⟩) (k:=?_)
  repeat (first|refine Da ?_|refine Df ?_)
  refine DQ.anil (k:=?_);intro sx _
  try simp only[List.map_cons,List.map_nil,List.cons_append,List.nil_append]
  generalize sx 11 0=gV;generalize sx 11 1=gY;generalize sx 11 2=gP;generalize sx 15 0=gD;generalize dSg p q g (dqL q P (F+m)) (csN p g a ks) ep (dqD ks.length d) k.1 ks.length=sg;generalize (dPs p q g (dqL q P (F+m)) (csN p g a ks) ep (dqD ks.length d) k.1 ks.length).flatMap pfC=cP2;generalize (dYs p q (dqL q P (F+m)) (csN p g a ks) ks.length).flatMap zb=cY2;generalize (dVs p q g (dqL q P (F+m)) ks.length).flatMap zb=cV2
  repeat (first|refine Tw ?_|(refine Tm ?_;intro _)|exact Tz)
  exact WX.ret1 rfl (ym rfl Hs.a rfl rfl) [⟨gP,86,cP2⟩,⟨gY,24,cY2⟩,⟨gV,24,cV2⟩] (by repeat (first|exact Lle.nil|refine Lle.c ?_)) ⟨fun j=>match j with|0=>gV|1=>gY|_=>gP,rfl,rfl,trivial⟩
end
section
variable {P:Program} {w0:World} {gs:List Nat} {K:List (Nat × Value)} {L:List Ent}
theorem u4 {x y:Operand} {t yt ty e:TypeId} {p:Addr} {n c:Nat} (hu:P.underlying t=some (.slice e)) (hx:ev K x=some (.slice (some p) n c)) (hy:ev K y=some (.slice none 0 0)):Does P w0 gs K L (.binOp .eql t x y yt) ty (.bool false):=by
 intro a w hk _ o ho _;have h1:(eqGuard .eql t x y (.slice (some p) n c) (.slice none 0 0)).run P w=.ok () w:=by unfold eqGuard;rfl
 have h4:∀ d,(Op.equalIn (d+1) t (.slice (some p) n c) (.slice none 0 0)).run P w=.ok false w:=fun d=>by
  simp[Op.equalIn,underlying,hu]
 have h3:(Op.equalIn 10000 t (.slice (some p) n c) (.slice none 0 0)).run P w=.ok false w:=h4 9999;have h2:(binOp .eql t (.slice (some p) n c) (.slice none 0 0)).run P w=.ok (.bool false) w:=by
  simp only[binOp,Op.equal,Op.maxDepth,Sem.run_bind,h3,Result.andThen_ok,Sem.run_pure]
 simp only[execOp,ho,hk.eval hx,hk.eval hy,Sem.run_bind,h1,Result.andThen_ok,h2,Sem.run_pure]
theorem lm {x y:Operand} {t yt ty kt e:TypeId} {g:Nat} (hu:P.underlying t=some (.map kt e)) (hx:ev K x=some (.map (some g))) (hy:ev K y=some (.map none)):Does P w0 gs K L (.binOp .neq t x y yt) ty (.bool true):=by
 intro a w hk _ o ho _;have h1:(eqGuard .neq t x y (.map (some g)) (.map none)).run P w=.ok () w:=by unfold eqGuard;rfl
 have h4:∀ d,(Op.equalIn (d+1) t (.map (some g)) (.map none)).run P w=.ok false w:=fun d=>by
  simp[Op.equalIn,underlying,hu]
 have h3:(Op.equalIn 10000 t (.map (some g)) (.map none)).run P w=.ok false w:=h4 9999;have h2:(binOp .neq t (.map (some g)) (.map none)).run P w=.ok (.bool true) w:=by
  simp only[binOp,Op.equal,Op.maxDepth,Sem.run_bind,h3,Result.andThen_ok,Sem.run_pure];rfl
 simp only[execOp,ho,hk.eval hx,hk.eval hy,Sem.run_bind,h1,Result.andThen_ok,h2,Sem.run_pure]
theorem iy {x y:Operand} {t yt ty e:TypeId} {p:Addr} (hu:P.underlying t=some (.pointer e)) (hx:ev K x=some (.pointer (some p))) (hy:ev K y=some (.pointer none)):Does P w0 gs K L (.binOp .neq t x y yt) ty (.bool true):=by
 intro a w hk _ o ho _;have h1:(eqGuard .neq t x y (.pointer (some p)) (.pointer none)).run P w=.ok () w:=by unfold eqGuard;rfl
 have h4:∀ d,(Op.equalIn (d+1) t (.pointer (some p)) (.pointer none)).run P w=.ok false w:=fun d=>by
  simp[Op.equalIn,underlying,hu]
 have h3:(Op.equalIn 10000 t (.pointer (some p)) (.pointer none)).run P w=.ok false w:=h4 9999;have h2:(binOp .neq t (.pointer (some p)) (.pointer none)).run P w=.ok (.bool true) w:=by
  simp only[binOp,Op.equal,Op.maxDepth,Sem.run_bind,h3,Result.andThen_ok,Sem.run_pure];rfl
 simp only[execOp,ho,hk.eval hx,hk.eval hy,Sem.run_bind,h1,Result.andThen_ok,h2,Sem.run_pure]
theorem iz {x y:Operand} {t yt ty e:TypeId} (hu:P.underlying t=some (.pointer e)) (hx:ev K x=some (.pointer none)) (hy:ev K y=some (.pointer none)):Does P w0 gs K L (.binOp .neq t x y yt) ty (.bool false):=by
 intro a w hk _ o ho _;have h1:(eqGuard .neq t x y (.pointer none) (.pointer none)).run P w=.ok () w:=by unfold eqGuard;rfl
 have h4:∀ d,(Op.equalIn (d+1) t (.pointer none) (.pointer none)).run P w=.ok true w:=fun d=>by
  simp[Op.equalIn,underlying,hu]
 have h3:(Op.equalIn 10000 t (.pointer none) (.pointer none)).run P w=.ok true w:=h4 9999;have h2:(binOp .neq t (.pointer none) (.pointer none)).run P w=.ok (.bool false) w:=by
  simp only[binOp,Op.equal,Op.maxDepth,Sem.run_bind,h3,Result.andThen_ok,Sem.run_pure];rfl
 simp only[execOp,ho,hk.eval hx,hk.eval hy,Sem.run_bind,h1,Result.andThen_ok,h2,Sem.run_pure]
theorem tn {t elem size ty len cap:Nat} {p:Option Addr} {k k' : IntKind} {x y z:Operand} [SlT P t elem size] (hx:ev K x=some (.slice p len cap)) (hy:ev K y=some (.int k (len:Int))) (hz:ev K z=some (.int k' (len:Int))) (hc:len≤cap) :
  Does P w0 gs K L (.slice t x none (some y) (some z)) ty (.slice p len len):=by
 intro a w hk _ o ho _;have hu:∀ w,(underlying t).run P w=.ok (.slice elem) w:=fun w=>by simp[underlying,SlT.under (P:=P) (t:=t)]
 have hb:((0:Int)≤(len:Int)∧(len:Int)≤(cap:Int)):=by omega
 have hb2:((0:Int)≤(len:Int)∧(len:Int)≤(len:Int)):=by omega
 simp only[execOp,ho,hk.eval hx,Option.map_none,Option.map_some,hk.eval hy,hk.eval hz,Instr.sliceAt,Sem.run_bind,hu,Result.andThen_ok,Instr.slice,Sem.run_pure,Instr.sliceBounds,Instr.sliceBound,asIntOf,if_pos hb,if_pos hb2,SlT.size (P:=P) (t:=t),Nat.zero_mul,Nat.sub_zero,Int.toNat_natCast];have:p.map (fun a=>a.add 0)=p:=by cases p<;>simp[Addr.add]
 simp[this]
end
abbrev NwR {α:Type} (t:TypeId) (f:α→List Value) (z:List Value) (xs:List α):Value→List Ent→Prop :=
 Ex (fun s=>.slice (some ⟨s 0,0,none⟩) xs.length (s 1)) (fun s=>[⟨s 0,t,xs.flatMap f++mkz (s 1 - xs.length) z⟩]) (fun s=>xs.length≤s 1∧s 1<9223372036854775808)
theorem pH {α:Type} {f:α→List Value} (h:∀ x,(f x).all Value.oneCell'=true) (xs:List α):(xs.flatMap f).all Value.oneCell'=true:=by
 induction xs with
 | nil=>rfl
 | cons a r ih=>rw[List.flatMap_cons,List.all_append,ih,h a];rfl
section
variable (pt:Option Addr) (c:Nat)
theorem ku (xs:List (Nat)) (h0:0<xs.length) (hn:xs.length≤1000):Fn Tryz.prog 87 [.slice pt xs.length c] (RdF zb (.slice pt xs.length c) xs) (NwR 24 zb (zb 0) xs):=by
 have hl:(xs.flatMap zb).length=xs.length*4:=zK (f:=zb) (k:=4) (fun _=>rfl) xs;refine Fn.enter Tryz.func87 rfl rfl rfl ?_;intro w hw;obtain⟨x,hx⟩ : ∃ x,xs[0]?=some x:=⟨_,List.getElem?_eq_getElem h0⟩;obtain⟨b,o,rfl,_,hs⟩:=id hw |>.get hx
 repeat (first|refine WO.does (u4 (e:=24) Tryz.underlying42 rfl rfl) ?_|refine Ta ?_|(refine Tm ?_;intro _)|(refine WO.makes (zh (cs:=[]) rfl (by decide) rfl) ?_;intro _)|refine Tc ?_|exact Tz)
 refine WO.appKZ (z:=zb 0) (m:=xs.length) (l:=xs.length) rfl rfl rfl (xs:=[]) (ys:=xs.flatMap zb) rfl (Nat.le_refl _) Pk.a (RdF.rds hw rfl) hl (pH (fun _=>rfl) xs) (Nat.zero_add _) Om (by decide) Om (by decide) (by decide) (fun g1 c1 a2 a3=>?_)
 repeat (first|refine Tw ?_|(refine Tm ?_;intro _)|exact Tz)
 exact WX.ret1 rfl (zo rfl) [⟨g1,24,xs.flatMap zb++mkz (c1 - xs.length) (zb 0)⟩] (by repeat (first|exact Lle.nil|refine Lle.c ?_)) ⟨fun j=>match j with|0=>g1|_=>c1,rfl,rfl,a3,a2⟩
theorem aD (xs:List (Nat × Nat)) (h0:0<xs.length) (hn:xs.length≤1000):Fn Tryz.prog 89 [.slice pt xs.length c] (RdF pfC (.slice pt xs.length c) xs) (NwR 86 pfC (y7 0 0) xs):=by
 have hl:(xs.flatMap pfC).length=xs.length*8:=zK (f:=pfC) (k:=8) (fun _=>rfl) xs;refine Fn.enter Tryz.func89 rfl rfl rfl ?_;intro w hw;obtain⟨x,hx⟩ : ∃ x,xs[0]?=some x:=⟨_,List.getElem?_eq_getElem h0⟩;obtain⟨b,o,rfl,_,hs⟩:=id hw |>.get hx
 repeat (first|refine WO.does (u4 (e:=86) Tryz.underlying43 rfl rfl) ?_|refine Ta ?_|(refine Tm ?_;intro _)|(refine WO.makes (zh (cs:=[]) rfl (by decide) rfl) ?_;intro _)|refine Tc ?_|exact Tz)
 refine WO.appKZ (z:=y7 0 0) (m:=xs.length) (l:=xs.length) rfl rfl rfl (xs:=[]) (ys:=xs.flatMap pfC) rfl (Nat.le_refl _) Pk.a (RdF.rds hw rfl) hl (pH (fun _=>rfl) xs) (Nat.zero_add _) Om (by decide) Om (by decide) (by decide) (fun g1 c1 a2 a3=>?_)
 repeat (first|refine Tw ?_|(refine Tm ?_;intro _)|exact Tz)
 exact WX.ret1 rfl (zo rfl) [⟨g1,86,xs.flatMap pfC++mkz (c1 - xs.length) (y7 0 0)⟩] (by repeat (first|exact Lle.nil|refine Lle.c ?_)) ⟨fun j=>match j with|0=>g1|_=>c1,rfl,rfl,a3,a2⟩
theorem aab (xs:List (Nat × Nat)) (h0:0<xs.length) (hn:xs.length≤1000):Fn Tryz.prog 27 [.slice pt xs.length c] (RdF yf (.slice pt xs.length c) xs) (NwR 96 yf (y7 0 0) xs):=by
 have hl:(xs.flatMap yf).length=xs.length*8:=zK (f:=yf) (k:=8) (fun _=>rfl) xs;refine Fn.enter Tryz.func27 rfl rfl rfl ?_;intro w hw;obtain⟨x,hx⟩ : ∃ x,xs[0]?=some x:=⟨_,List.getElem?_eq_getElem h0⟩;obtain⟨b,o,rfl,_,hs⟩:=id hw |>.get hx
 repeat (first|refine WO.does (u4 (e:=96) Tryz.underlying31 rfl rfl) ?_|refine Ta ?_|(refine Tm ?_;intro _)|(refine WO.makes (zh (cs:=[]) rfl (by decide) rfl) ?_;intro _)|refine Tc ?_|exact Tz)
 refine WO.appKZ (z:=y7 0 0) (m:=xs.length) (l:=xs.length) rfl rfl rfl (xs:=[]) (ys:=xs.flatMap yf) rfl (Nat.le_refl _) Pk.a (RdF.rds hw rfl) hl (pH (fun _=>rfl) xs) (Nat.zero_add _) Om (by decide) Om (by decide) (by decide) (fun g1 c1 a2 a3=>?_)
 repeat (first|refine Tw ?_|(refine Tm ?_;intro _)|exact Tz)
 exact WX.ret1 rfl (zo rfl) [⟨g1,96,xs.flatMap yf++mkz (c1 - xs.length) (y7 0 0)⟩] (by repeat (first|exact Lle.nil|refine Lle.c ?_)) ⟨fun j=>match j with|0=>g1|_=>c1,rfl,rfl,a3,a2⟩
theorem fe (p:Option Addr) (n:Nat) (hc:n≤c):Fn Tryz.prog 86 [.slice p n c] Tr (Is (.slice p n n)):=by
 refine Fn.enter Tryz.func86 rfl rfl rfl ?_;intro w hw
 repeat (first|refine WO.does (tn rfl rfl rfl hc) ?_|refine Ta ?_|(refine Tm ?_;intro _)|refine Tc ?_|exact Tz)
 done
theorem ac1 (p:Option Addr) (n:Nat) (hc:n≤c):Fn Tryz.prog 88 [.slice p n c] Tr (Is (.slice p n n)):=by
 refine Fn.enter Tryz.func88 rfl rfl rfl ?_;intro w hw
 repeat (first|refine WO.does (tn rfl rfl rfl hc) ?_|refine Ta ?_|(refine Tm ?_;intro _)|refine Tc ?_|exact Tz)
 done
theorem acJ (p:Option Addr) (n:Nat) (hc:n≤c):Fn Tryz.prog 37 [.slice p n c] Tr (Is (.slice p n n)):=by
 refine Fn.enter Tryz.func37 rfl rfl rfl ?_;intro w hw
 repeat (first|refine WO.does (tn rfl rfl rfl hc) ?_|refine Ta ?_|(refine Tm ?_;intro _)|refine Tc ?_|exact Tz)
 done
theorem abj (p:Option Addr) (n:Nat) (hc:n≤c):Fn Tryz.prog 38 [.slice p n c] Tr (Is (.slice p n n)):=by
 refine Fn.enter Tryz.func38 rfl rfl rfl ?_;intro w hw
 repeat (first|refine WO.does (tn rfl rfl rfl hc) ?_|refine Ta ?_|(refine Tm ?_;intro _)|refine Tc ?_|exact Tz)
 done
end
section
open Kp
variable {P:Program} {w0:World} {gs:List Nat} {n:Nat} {fl:List Nat} {Q:Exit→Act→World→Prop} {ops:List Oper} {L0:List Ent}
variable {tail rest:List Oper} {i:Nat} {C:zI→Prop} {K:zI→List (Nat × Value)} {N:zI→List (Nat × Ent)}
variable {d:Nat} {op:Op} {ty:TypeId} {pos:String} {after:Array Edge} {gd:Option (Nat × Bool)}
theorem DQ.acallXS {f:FuncId} [Cal P f] {xs:Array Operand} {ats:Array TypeId} {vs:List Value} {Rq:World→Prop} {vf:(Nat→Nat)→Value} {Nf:(Nat→Nat)→List Ent} {S:(Nat→Nat)→Prop} (hc:Fn P f vs Rq (Ex vf Nf S)) (hS:∃ x,S x) (hR:∀ w,Mr w0 gs L0 w→Rq w) (ha:∀ s,evs (K s) xs.toList=some vs:=by (intro s;rfl))
  (k:DQ P w0 gs n fl Q ops L0 tail (i+1) rest (fun s=>C s∧S (s i)) (fun s=>(d,vf (s i))::K s) (fun s=>(Nf (s i)).map (fun e=>(i,e))++N s))
  (hfl:fl.contains i=false:=by rfl) (hw:∀ s,wk ops (K s) gd=some true:=by intro _;rfl) (hd:Nat.blt d n=true:=by rfl) :
  DQ P w0 gs n fl Q ops L0 tail i (⟨some d,.call { callee:=.value (.func f),args:=xs,argTypes:=ats },ty,pos,after,gd⟩::rest) C K N :=
 DQ.callsE (fs:=fun _=>[]) (cs:=fun _=>[]) (R:=fun _=>Rq) (vf:=fun _ x=>vf x) (Nf:=fun _ x=>Nf x) (S:=fun _ x=>S x) (fun _=>[]) (fun _=>.nil)
  (fun _=>hS) (fun _ _=>hc) (fun _=>rfl) ha (fun _=>by simp) (fun _ _ w h=>hR w h) Dp.const Dp.const Dp.const k hfl hw hd
end
section
variable (ep d sC sS:Nat) (pV pY pP:Option Addr) (cV cY cP:Nat) (V Y:List Nat) (Pr:List (Nat × Nat))
theorem fJ (hV:0<V.length) (hY:0<Y.length) (hP:0<Pr.length) (hVl:V.length≤1000) (hYl:Y.length≤1000) (hPl:Pr.length≤1000) :
  Fn Tryz.prog 34 [dlV ep d (.slice pV V.length cV) (.slice pY Y.length cY) (.slice pP Pr.length cP) sC sS] (fun w=>RdF zb (.slice pV V.length cV) V w∧RdF zb (.slice pY Y.length cY) Y w∧RdF pfC (.slice pP Pr.length cP) Pr w)
   (Ex (fun s=>dlV ep d (.slice (some ⟨s 0,0,none⟩) V.length V.length) (.slice (some ⟨s 1,0,none⟩) Y.length Y.length) (.slice (some ⟨s 2,0,none⟩) Pr.length Pr.length) sC sS)
    (fun s=>[⟨s 0,24,V.flatMap zb++mkz (s 3) (zb 0)⟩,⟨s 1,24,Y.flatMap zb++mkz (s 4) (zb 0)⟩,⟨s 2,86,Pr.flatMap pfC++mkz (s 5) (y7 0 0)⟩]) (fun _=>True)):=by
 have h1:=ku pV cV V hV hVl;have h2:=ku pY cY Y hY hYl;have h3:=aD pP cP Pr hP hPl;refine Fn.enter Tryz.func34 rfl rfl rfl ?_;intro w hw;obtain⟨wV,wY,wP⟩:=hw
 repeat (first|refine Tw ?_|(refine Tm ?_;intro _)|exact Tz)
 rename_i gA gR;refine WC.adraw 13 (k:=?_)
 iterate 2 (first|refine Da ?_|refine Dc ?_)
 refine DQ.acallXS (hc:=h1) (hS:=⟨fun _=>V.length,Nat.le_refl _,by show V.length<9223372036854775808;omega⟩) (hR:=fun w1 hm=>wV.mod hm.mod) (k:=?_);refine DQ.call (v:=fun s=>.slice (some ⟨s 2 0,0,none⟩) V.length V.length) (fun s hC=>fe (s 2 1) (some ⟨s 2 0,0,none⟩) V.length hC.2.1) (fun s=>rfl) (fun _ _ _ _=>trivial) (by intro s s' h;dsimp only;rw[h]<;>decide +kernel) ?_
 iterate 2 (first|refine Da ?_|refine Dc ?_)
 refine DQ.acallXS (hc:=h2) (hS:=⟨fun _=>Y.length,Nat.le_refl _,by show Y.length<9223372036854775808;omega⟩) (hR:=fun w1 hm=>wY.mod hm.mod) (k:=?_);refine DQ.call (v:=fun s=>.slice (some ⟨s 6 0,0,none⟩) Y.length Y.length) (fun s hC=>fe (s 6 1) (some ⟨s 6 0,0,none⟩) Y.length hC.2.1) (fun s=>rfl) (fun _ _ _ _=>trivial) (by intro s s' h;dsimp only;rw[h]<;>decide +kernel) ?_
 iterate 2 (first|refine Da ?_|refine Dc ?_)
 refine DQ.acallXS (hc:=h3) (hS:=⟨fun _=>Pr.length,Nat.le_refl _,by show Pr.length<9223372036854775808;omega⟩) (hR:=fun w1 hm=>wP.mod hm.mod) (k:=?_);refine DQ.call (v:=fun s=>.slice (some ⟨s 10 0,0,none⟩) Pr.length Pr.length) (fun s hC=>ac1 (s 10 1) (some ⟨s 10 0,0,none⟩) Pr.length hC.2.1) (fun s=>rfl) (fun _ _ _ _=>trivial) (by intro s s' h;dsimp only;rw[h]<;>decide +kernel) ?_
 iterate 1 (first|refine Da ?_|refine Dc ?_)
 refine DQ.anil (k:=?_);intro sx _
 try simp only[List.map_cons,List.map_nil,List.cons_append,List.nil_append]
 generalize sx 2 0=gV;generalize sx 2 1 - V.length=rV;generalize sx 6 0=gY;generalize sx 6 1 - Y.length=rY;generalize sx 10 0=gP;generalize sx 10 1 - Pr.length=rP
 repeat (first|refine Tw ?_|(refine Tm ?_;intro _)|exact Tz)
 exact WX.ret1 rfl (ym rfl Hs.a rfl rfl) [⟨gV,24,V.flatMap zb++mkz rV (zb 0)⟩,⟨gY,24,Y.flatMap zb++mkz rY (zb 0)⟩,⟨gP,86,Pr.flatMap pfC++mkz rP (y7 0 0)⟩] (by repeat (first|exact Lle.nil|refine Lle.c ?_)) ⟨fun j=>match j with|0=>gV|1=>gY|2=>gP|3=>rV|4=>rY|_=>rP,rfl,rfl,trivial⟩
end
end Sx
end
section
open Go Go.RowKit Go.BigFrame
namespace Sx
structure Dd where
 d:Nat
 V:List Nat
 Y:List Nat
 P:List (Nat × Nat)
 c:Nat
 s:Nat
structure Dk where
 v:Nat
 y:Nat
 p:Nat
 rv:Nat
 ry:Nat
 rp:Nat
def ddH (ep:Nat) (x:Dd):List Nat:=yN ep x.d x.V x.Y x.P
def ddL (x:Dd) (b:Dk):List Ent:=[⟨b.v,24,x.V.flatMap zb++mkz b.rv (zb 0)⟩,⟨b.y,24,x.Y.flatMap zb++mkz b.ry (zb 0)⟩,⟨b.p,86,x.P.flatMap pfC++mkz b.rp (y7 0 0)⟩]
theorem ut (ep:Nat) (x:Dd):∀ b∈ddH ep x,b<256:=pg _ _
theorem yP (ep:Nat) (x:Dd):(ddH ep x).length=32:=yW _ _
abbrev dzC:List Value:=[.int .u64 0,.int .u8 0,.slice none 0 0,.slice none 0 0,.slice none 0 0,.int .u64 ((wd 0 0:Nat):Int),.int .u64 ((wd 1 0:Nat):Int),.int .u64 ((wd 2 0:Nat):Int),.int .u64 ((wd 3 0:Nat):Int),.int .u64 ((wd 0 0:Nat):Int),.int .u64 ((wd 1 0:Nat):Int),.int .u64 ((wd 2 0:Nat):Int),.int .u64 ((wd 3 0:Nat):Int)]
def ddC (ep:Nat) (x:Dd × Dk):List Value:=dlC ep x.1.d (.slice (some ⟨x.2.v,0,none⟩) x.1.V.length x.1.V.length) (.slice (some ⟨x.2.y,0,none⟩) x.1.Y.length x.1.Y.length) (.slice (some ⟨x.2.p,0,none⟩) x.1.P.length x.1.P.length) x.1.c x.1.s
theorem aa5 (ep:Nat) (x:Dd × Dk):(ddC ep x).length=13:=rfl
abbrev qo (ep g c:Nat) (E:List (Dd × Dk)):List Ent:=rwL 47 g (E.flatMap (ddC ep)) (mkz (c - E.length) dzC) E.length
abbrev pU (g c:Nat) (E:List (Dd × Dk)):Value:=agV g c E.length E.length
theorem iZ {g c:Nat} {F:List (Dd × Dk)} (h:F.length≤c):∃ p c',pU g c F=.slice p F.length c'∧F.length≤c'∧Value.slice p F.length F.length=pU g F.length F:=by
 cases F with
 | nil=>exact⟨none,0,rfl,Nat.le_refl _,rfl⟩
 | cons a F=>exact⟨some ⟨g,0,none⟩,c,rfl,h,rfl⟩
theorem Lle.skp {e:Ent} {L:List Ent}:∀ {L' : List Ent},Lle L' L→Lle L' (e::L)
 | [],_=>trivial
 | _::_,⟨cs,L2,h1,h2,h3⟩=>⟨cs,e::L2,.there h1,h2,Lle.skp h3⟩
theorem Lle.left' : ∀ {N:List Ent},Lle N N
 | []=>trivial
 | _::_=>⟨_,_,.here,rfl,Lle.left'⟩
theorem aak (ep:Nat):∀ E:List (Dd × Dk),(E.flatMap (ddC ep)).length=E.length*13
 | []=>rfl
 | a::E=>by rw[List.flatMap_cons,List.length_append,aak ep E,aa5,List.length_cons];omega
structure acG (w:World) (x:Dd) (b:Dk):Prop where
 v:RdF zb (.slice (some ⟨b.v,0,none⟩) x.V.length x.V.length) x.V w
 y:RdF zb (.slice (some ⟨b.y,0,none⟩) x.Y.length x.Y.length) x.Y w
 p:RdF pfC (.slice (some ⟨b.p,0,none⟩) x.P.length x.P.length) x.P w
structure mR (x:Dd):Prop where
 v:x.V≠[]
 y:x.Y≠[]
 p:x.P≠[]
 vl:x.V.length≤100
 yl:x.Y.length≤100
 pl:x.P.length≤100
theorem acG.lt {w:World} {x:Dd} {b:Dk} (h:acG w x b) (hf:mR x):b.v<w.heap.size∧b.y<w.heap.size∧b.p<w.heap.size:=⟨RdF.lt (k:=3) (f:=zb) (fun _=>rfl) h.v hf.v,RdF.lt (k:=3) (f:=zb) (fun _=>rfl) h.y hf.y,RdF.lt (k:=7) (f:=pfC) (fun _=>rfl) h.p hf.p⟩
structure ac8 (x:Dd):Prop where
 v:∀ a∈x.V,a<zd
 y:∀ a∈x.Y,a<zd
 p:yz x.P
 c:x.c<zd
 s:x.s<zd
abbrev adc (ep:Nat) (x:Dd) (pV pY pP:Option Addr) (cV cY cP:Nat):Value:=dlV ep x.d (.slice pV x.V.length cV) (.slice pY x.Y.length cY) (.slice pP x.P.length cP) x.c x.s
structure adb (x:Dd) (pV pY pP:Option Addr) (cV cY cP:Nat) (w:World):Prop where
 v:RdF zb (.slice pV x.V.length cV) x.V w
 y:RdF zb (.slice pY x.Y.length cY) x.Y w
 p:RdF pfC (.slice pP x.P.length cP) x.P w
section
variable {w:World}
theorem acG.of {x:Dd} {b:Dk} (h:∀ e∈ddL x b,e.ok w):acG w x b:=by
 have h1:=(h ⟨b.v,24,x.V.flatMap zb++mkz b.rv (zb 0)⟩ (by simp[ddL])).seg 0;have h2:=(h ⟨b.y,24,x.Y.flatMap zb++mkz b.ry (zb 0)⟩ (by simp[ddL])).seg 0;have h3:=(h ⟨b.p,86,x.P.flatMap pfC++mkz b.rp (y7 0 0)⟩ (by simp[ddL])).seg 0;rw[List.drop_zero] at h1 h2 h3;exact⟨RdF.ownO h1 rfl,RdF.ownO h2 rfl,RdF.ownO h3 rfl⟩
theorem adb.of {x:Dd} {b:Dk} {cV cY cP:Nat} {w:World} (h:∀ e∈ddL x b,e.ok w):adb x (some ⟨b.v,0,none⟩) (some ⟨b.y,0,none⟩) (some ⟨b.p,0,none⟩) cV cY cP w:=by
 have h1:=(h ⟨b.v,24,x.V.flatMap zb++mkz b.rv (zb 0)⟩ (by simp[ddL])).seg 0;have h2:=(h ⟨b.y,24,x.Y.flatMap zb++mkz b.ry (zb 0)⟩ (by simp[ddL])).seg 0;have h3:=(h ⟨b.p,86,x.P.flatMap pfC++mkz b.rp (y7 0 0)⟩ (by simp[ddL])).seg 0;rw[List.drop_zero] at h1 h2 h3;exact⟨RdF.ownO h1 rfl,RdF.ownO h2 rfl,RdF.ownO h3 rfl⟩
end
theorem vT {α:Type} {f:α→List Value} {k:Nat}:∀ {xs:List α} {i:Nat} {x:α} {r:List Value},(∀ x∈xs,(f x).length=k)→xs[i]?=some x→cut (xs.flatMap f++r) (i*k) k=f x
 | [],i,x,_,_,h=>by simp at h
 | a::xs,0,x,r,hk,h=>by
  have e:a=x:=by simpa using h
  subst e;rw[Nat.zero_mul,List.flatMap_cons,List.append_assoc];unfold cut;rw[List.drop_zero,← hk a (by simp),List.take_left]
 | a::xs,i+1,x,r,hk,h=>by
  have:=vT (r:=r) (fun y hy=>hk y (by simp[hy])) (show xs[i]?=some x by simpa using h);rw[List.flatMap_cons,List.append_assoc,Nat.succ_mul];unfold cut at this ⊢;rw[Nat.add_comm (i*k) k,← List.drop_drop,← hk a (by simp),List.drop_left,hk a (by simp)];exact this
def ddB (T:List (Dd × Dk)):List Ent:=T.reverse.flatMap fun y=>ddL y.1 y.2
theorem kG (T:List (Dd × Dk)) (y:Dd × Dk):ddB (T++[y])=ddL y.1 y.2++ddB T:=by unfold ddB;rw[List.reverse_append];rfl
def dqX (p q g a F m:Nat) (ks:List (Nat × Nat)) (ep d:Nat) (P:List Nat):Dd :=
  ⟨dqD ks.length d,dVs p q g (dqL q P (F+m)) ks.length,dYs p q (dqL q P (F+m)) (csN p g a ks) ks.length,dPs p q g (dqL q P (F+m)) (csN p g a ks) ep (dqD ks.length d) (ks.getD (dqD ks.length d - 1) (0,0)).1 ks.length,
   (dSg p q g (dqL q P (F+m)) (csN p g a ks) ep (dqD ks.length d) (ks.getD (dqD ks.length d - 1) (0,0)).1 ks.length).1,(dSg p q g (dqL q P (F+m)) (csN p g a ks) ep (dqD ks.length d) (ks.getD (dqD ks.length d - 1) (0,0)).1 ks.length).2⟩
section
variable {p q g a F m:Nat} {ks:List (Nat × Nat)} {ep d:Nat} {P:List Nat}
theorem acz:(dqX p q g a F m ks ep d P).V.length=ks.length:=by simp[dqX,dVs]
theorem abb:(dqX p q g a F m ks ep d P).Y.length=ks.length:=by simp[dqX,dYs]
theorem abU:(dqX p q g a F m ks ep d P).P.length=ks.length:=by simp[dqX,dPs]
theorem aby (hn:0<ks.length) (h7:ks.length≤7):mR (dqX p q g a F m ks ep d P):=by
 have h1:=acz (p:=p) (q:=q) (g:=g) (a:=a) (F:=F) (m:=m) (ks:=ks) (ep:=ep) (d:=d) (P:=P);have h2:=abb (p:=p) (q:=q) (g:=g) (a:=a) (F:=F) (m:=m) (ks:=ks) (ep:=ep) (d:=d) (P:=P);have h3:=abU (p:=p) (q:=q) (g:=g) (a:=a) (F:=F) (m:=m) (ks:=ks) (ep:=ep) (d:=d) (P:=P);exact⟨fun e=>by rw[e] at h1;simp at h1;omega,fun e=>by rw[e] at h2;simp at h2;omega,fun e=>by rw[e] at h3;simp at h3;omega,by omega,by omega,by omega⟩
theorem ab3 (hp:p<zd) (hq:q<zd) (h0:0<q):ac8 (dqX p q g a F m ks ep d P):=⟨adE hp,adi hp,ael hq h0,(aas hq h0).1,(aas hq h0).2⟩
theorem aeH (hn:0<ks.length):0<(dqX p q g a F m ks ep d P).d∧(dqX p q g a F m ks ep d P).d≤(csN p g a ks).length:=by
 have:d%ks.length<ks.length:=Nat.mod_lt _ hn;rw[ub];show 0<1+d%ks.length∧1+d%ks.length≤ks.length;omega
theorem aea (hc:dE p q g a (F:Int) (m:Int) ks) (hn:0<ks.length):ckE p q g (exN p g a) (F:Int) (m:Int) (csN p g a ks) ep (dqX p q g a F m ks ep d P).d (dqX p q g a F m ks ep d P).V (dqX p q g a F m ks ep d P).Y (dqX p q g a F m ks ep d P).P (dqX p q g a F m ks ep d P).c (dqX p q g a F m ks ep d P).s=none:=by
 have h:=dh (ep:=ep) hc.pri (mo hc d P hn);rw[ub] at h;exact h
end
section
variable (p q g h0 a:Nat) (F m:Nat) (pk:Option Addr) (ck:Nat) (ks:List (Nat × Nat)) (pt:Option Addr) (c:Nat) (ep d:Nat) (pP:Option Addr) (cP:Nat) (P:List Nat)
theorem aei {a b c:Ent}:[a,b,c].Perm [c,b,a]:=List.reverse_perm [c,b,a]
theorem Fn.perm {Pg:Program} {f:FuncId} {args:List Value} {R:World→Prop} {post post' : Value→List Ent→Prop} (h:Fn Pg f args R post) (hp:∀ v N,post v N→∃ N',N.Perm N'∧post' v N'):Fn Pg f args R post' :=
 fun w hw=>(h w hw).mono fun _ _ ⟨v,N,h1,h2,h3,h4⟩=>by
  obtain⟨N',h5,h6⟩:=hp v N h4;exact⟨v,N',h1,h2,⟨fun e he=>h3.ok e (h5.mem_iff.2 he),fun e he=>h3.new e (h5.mem_iff.2 he),(h5.map Ent.g).nodup_iff.1 h3.nodup⟩,h6⟩
theorem Fn.drop {Pg:Program} {f:FuncId} {args:List Value} {R:World→Prop} {post post' : Value→List Ent→Prop} (h:Fn Pg f args R post) (hp:∀ v N,post v N→post' v []):Fn Pg f args R post' :=
 fun w hw=>(h w hw).mono fun _ _ ⟨v,N,h1,h2,_,h4⟩=>⟨v,[],h1,h2,j2.nil _ _,hp v N h4⟩
theorem abd (hc:dE p q g a (F:Int) (m:Int) ks) (hn:0<ks.length) (hp:p<zd) (hq:q<zd) (hg:g<zd) (hh0:h0<zd) (ha:a<zd) (hks:yz ks) (hP:∀ x∈P,x<4294967296) (hd:d<256) (hep:ep<18446744073709551616) :
  Fn Tryz.prog 10 [csV p q g h0 a (F:Int) (m:Int) (.slice pk ks.length ck),stV p q g (exN p g a) (F:Int) (m:Int) (.slice pt ks.length c),.int .u64 (ep:Int),dqV d (.slice pP P.length cP)]
   (fun w=>RdF yf (.slice pk ks.length ck) ks w∧RdF yf (.slice pt ks.length c) (csN p g a ks) w∧RdE aag (.slice pP P.length cP) P w)
   (Ex (fun s=>adc ep (dqX p q g a F m ks ep d P) (some ⟨s 0,0,none⟩) (some ⟨s 1,0,none⟩) (some ⟨s 2,0,none⟩) ks.length ks.length ks.length) (fun s=>ddL (dqX p q g a F m ks ep d P) ⟨s 0,s 1,s 2,0,0,0⟩) (fun _=>True)):=by
 refine Fn.perm (acL p q g h0 a F m pk ck ks pt c ep d pP cP P hc hn hp hq hg hh0 ha hks hP hd hep) ?_;rintro v N ⟨s,rfl,rfl,_⟩;refine⟨ddL (dqX p q g a F m ks ep d P) ⟨s 0,s 1,s 2,0,0,0⟩,?_,s,?_,rfl,trivial⟩
 ·simp only[ddL,mkz,List.replicate_zero,List.flatten_nil,List.append_nil,dqX];exact aei
 ·unfold adc;rw[acz,abb,abU];rfl
end
end Sx
end
section
open Go Go.RowKit Go.BigFrame
namespace Sx
attribute [local irreducible] DQ WC WO WX wd
def ddV (ep:Nat) (x:Dd) (b:Dk):Value:=dlV ep x.d (.slice (some ⟨b.v,0,none⟩) x.V.length x.V.length) (.slice (some ⟨b.y,0,none⟩) x.Y.length x.Y.length) (.slice (some ⟨b.p,0,none⟩) x.P.length x.P.length) x.c x.s
def ddM (ep:Nat) (D:List (Dd × Dk)):List (Value × Value):=D.map fun x=>(hsV (ddH ep x.1),ddV ep x.1 x.2)
def ddR (D:List (Dd × Dk)):List Ent:=D.flatMap fun x=>ddL x.1 x.2
def ddK (ep:Nat) (D:List (Dd × Dk)) (k:Nat):List (List Nat):=(D.filter fun x=>x.1.d == k).map fun x=>ddH ep x.1
def lsV (lg lc:Nat→Nat) (hk:Nat→List (List Nat)) (k:Nat):Value:=agV (lg k) (lc k) (hk k).length (hk k).length
def lsE (lg lc:Nat→Nat) (hk:Nat→List (List Nat)) (k:Nat):List Ent:=rwL 53 (lg k) ((hk k).flatMap byC) (mkz (lc k - (hk k).length) (byC (List.replicate 32 0))) (hk k).length
def lsL (lg lc:Nat→Nat) (hk:Nat→List (List Nat)):List Ent:=(List.range 8).flatMap (lsE lg lc hk)
abbrev plC (p q g h:Nat) (f sec:Int) (ns:Value) (ep gM:Nat) (l:Nat→Value):List Value:=stC p q g h f sec ns++[.int .u64 (ep:Int),.map (some gM),l 0,l 1,l 2,l 3,l 4,l 5,l 6,l 7]
instance mpt_pool:MpT Tryz.prog 99 53 47 where
 under:=by kernel_rfl
section
variable (p q g h:Nat) (f sec:Int) (ns:Value) (ep gM P:Nat) (l:Nat→Value)
theorem sa:Fn Tryz.prog 32 [pt P] (fun w=>Seg w P 0 (plC p q g h f sec ns ep gM l)) (Is (.bool true)):=by
 refine Fn.enter Tryz.func32 rfl rfl rfl ?_;intro w hw
 repeat (first|refine WO.does (iy (e:=102) (by kernel_rfl) rfl rfl) ?_|refine WO.does (zl (hs:=hw) (hc:=rfl)) ?_|refine WO.does (lm (kt:=53) (e:=47) (by kernel_rfl) rfl rfl) ?_|refine Ta ?_|(refine Tm ?_;intro _)|refine Tc ?_|exact Tz)
 done
theorem sP:Fn Tryz.prog 32 [.pointer none] Tr (Is (.bool false)):=by
 refine Fn.enter Tryz.func32 rfl rfl rfl ?_;intro w hw
 repeat (first|refine WO.does (iz (e:=102) (by kernel_rfl) rfl rfl) ?_|refine Ta ?_|(refine Tm ?_;intro _)|refine Tc ?_|exact Tz)
 done
theorem kW (pt:Option Addr) (n c:Nat) (k:Nat) (hf1 : -9223372036854775808≤(n:Int) - f) (hf2:(n:Int) - f≤9223372036854775807):Fn Tryz.prog 36 [Sx.pt P,.int .i64 (k:Int)] (fun w=>Seg w P 0 (plC p q g h f sec (.slice pt n c) ep gM l)) (Is (.bool (decide ((n:Int) - f≤(k:Int))))):=by
 have hs:IntKind.i64.wrap ((n:Int) - f)=(n:Int) - f:=i64_in hf1 hf2;obtain⟨b,hb⟩ : ∃ b,decide ((n:Int) - f≤(k:Int))=b:=⟨_,rfl⟩;rw[hb];refine Fn.enter Tryz.func36 rfl rfl rfl ?_;intro w hw
 repeat (first|refine Tw ?_|(refine Tm ?_;intro _)|exact Tz)
 refine WC.adraw 15 (k:=?_)
 iterate 15 (first|refine DQ.does (fun s _=>zl (hs:=hw) (hc:=rfl)) Dp.const ?_|refine DQ.does (fun s _=>zG rfl rfl hs) Dp.const ?_|refine DQ.does (fun s _=>gJ rfl rfl hb) Dp.const ?_|refine Da ?_|refine Dc ?_)
 refine DQ.anil (k:=?_);intro sx _
 repeat (first|refine Tw ?_|(refine Tm ?_;intro _)|exact Tz)
 done
end
def NwP (p q g h:Nat) (f sec:Int) (N:List (Nat × Nat)) (ep:Nat) (b:Bool):Value→List Ent→Prop:=fun v M =>
 (b=true→∃ P gN cN gM,v=.tuple #[Sx.pt P,.int .i64 0]∧M=[⟨P,102,plC p q g h f sec (.slice (some ⟨gN,0,none⟩) N.length cN) ep gM (fun _=>.slice none 0 0)⟩,⟨gN,96,N.flatMap yf++mkz (cN - N.length) (y7 0 0)⟩,mpE gM []])∧(b=false→v=.tuple #[.pointer none,.int .i64 1])
section
variable (p q g h:Nat) (f sec:Int) (pt:Option Addr) (c:Nat) (N:List (Nat × Nat)) (ep:Nat)
theorem fo (hp:p<zd) (hq:q<zd) (hg:g<zd) (hh:h<zd) (hN:yz N) (hNl:N.length≤100)
  (hf1 : -9223372036854775808≤f) (hf2:f≤9223372036854775807) (hs1 : -9223372036854775808≤sec) (hs2:sec≤9223372036854775807) (hep:ep<18446744073709551616) :
  Fn Tryz.prog 9 [stV p q g h f sec (.slice pt N.length c),.int .u64 (ep:Int)] (fun w=>RdF yf (.slice pt N.length c) N w) (NwP p q g h f sec N ep (v6 p q g h f sec N)):=by
 have hS:=tL p q g h f sec pt c N hp hq hg hh hN Om hf1 hf2 hs1 hs2;cases e1:v6 p q g h f sec N with
 | false =>
  rw[e1] at hS;refine Fn.enter Tryz.func9 rfl rfl rfl ?_;intro w hw
  repeat (first|refine Ta ?_|(refine Tm ?_;intro _)|refine WO.acallR (hc:=hS) (hR:=fun w1 hm=>(hw.mod hm.mod).rdK) (k:=?_)|refine Tc ?_|exact Tz)
  exact WX.ret2 rfl (zo rfl) (zo rfl) [] Lle.nil ⟨(fun e=>by cases e),fun _=>rfl⟩
 | true =>
  rw[e1] at hS;have h1:=(vu e1).1;have hC:=aab pt c N Om Om;refine Fn.enter Tryz.func9 rfl rfl rfl ?_;intro w hw
  repeat (first|refine Ta ?_|(refine Tm ?_;intro _)|refine WO.acallR (hc:=hS) (hR:=fun w1 hm=>(hw.mod hm.mod).rdK) (k:=?_)|refine Tc ?_|exact Tz)
  refine WO.acallX (hc:=hC) (hR:=fun w1 hm=>hw.mod hm.mod) (k:=fun yy hyy=>?_);generalize yy 0=gN;generalize yy 1=cN;simp only[List.cons_append,List.nil_append]
  repeat (first|refine Ta ?_|(refine Tm ?_;intro _)|(refine WO.makesMap (fun gM=>?_))|refine Tc ?_|exact Tz)
  rename_i gS gP;exact WX.ret2 rfl (zo rfl) (zo rfl) [⟨gP,102,plC p q g h f sec (.slice (some ⟨gN,0,none⟩) N.length cN) ep gM (fun _=>.slice none 0 0)⟩,⟨gN,96,N.flatMap yf++mkz (cN - N.length) (y7 0 0)⟩,mpE gM []] (by repeat (first|exact Lle.nil|refine Lle.m ?_|refine Lle.c ?_)) ⟨fun _=>⟨gP,gN,cN,gM,rfl,rfl⟩,fun e=>by cases e⟩
end
end Sx
end
end Go.Proofs.YtiiefkchpicncaaGreatDoor
