/- Part 40 of the proof. -/
import Derived.Test.YtiaibpcaloigkaaGreatDoorG34
import Derived.Test.YtiaibpcaloigkaaGreatDoorG36
set_option linter.unusedSimpArgs false
set_option linter.unusedVariables false
set_option maxHeartbeats 8000000
namespace Go.Proofs.YtiaibpcaloigkaaGreatDoor
section
open Go Go.RowKit Go.BigFrame
namespace Sx
attribute [local irreducible] DQ WC WO WX wd
theorem ij {m:Nat} (h:m<18446744073709551616):zc m=[.int .u64 (m:Int),wZ 1 0,wZ 2 0,wZ 3 0]:=by
 have h0:wd 0 m=m:=c9 h;have h1:wd 1 m=wd 1 0:=by unfold wd;simp only;rw[Nat.div_eq_of_lt h]
 have h2:wd 2 m=wd 2 0:=by unfold wd;simp only;rw[Nat.div_eq_of_lt Om]
 have h3:wd 3 m=wd 3 0:=by unfold wd;simp only;rw[Nat.div_eq_of_lt Om]
 unfold zc;rw[h0,h1,h2,h3]
def rwL (t g:Nat) (B r:LV):Nat→List Ent
 | 0=>[]
 | _+1=>[⟨g,t,B++r⟩]
theorem mV {P:Program} {w0:World} {gs:LN} {K:List (Nat × Value)} {L:List Ent} {x y:Operand} {t yt ty:TypeId} {k:IntKind} {m n:Nat} (hx:ev K x=some (.int k (m:Int))) (hy:ev K y=some (.int k (n:Int))) (hn:0<n):Does P w0 gs K L (.binOp .rem t x y yt) ty (.int k ((m%n:Nat):Int)) :=
 yK hx hy Om rfl
theorem nS (n:Nat) (hn:n<18446744073709551616):Fn Tryz.prog 64 [.int .u64 (n:Int)] Tr (Is (.bool (vu n))):=by
 by_cases t1:n<2
 ·rw[nI (.inl t1)];refine Fn.enter Tryz.func64 rfl rfl rfl ?_;intro w hw
  repeat (first|refine WO.does (vy rfl rfl Om) ?_|refine Tj ?_|intro _|refine Tc ?_|exact Tz)
  done
 have hsh:((n:Nat):Int).fdiv (2 ^ (min (32:Int).toNat IntKind.u64.bits))=((n / 4294967296:Nat):Int):=by
  show Int.fdiv (n:Int) 4294967296=_;rw[Int.fdiv_eq_ediv_of_nonneg _ Dtt];omega
 by_cases t2:4294967296≤n
 ·rw[nI (.inr t2)];have h1:1≤n / 4294967296:=by omega
  generalize n / 4294967296=m at *;refine Fn.enter Tryz.func64 rfl rfl rfl ?_;intro w hw
  repeat (first|refine WO.does (z7 rfl rfl Om) ?_|refine WO.does (vo rfl rfl Dtt hsh) ?_|refine WO.does (tc rfl rfl Om) ?_|refine Tj ?_|intro _|refine Tc ?_|exact Tz)
  done
 have h0:n / 4294967296=0:=by omega
 rw[h0] at hsh;refine Fn.enter Tryz.func64 rfl rfl rfl ?_;intro w hw
 repeat (first|refine WO.does (z7 rfl rfl Om) ?_|refine WO.does (vo rfl rfl Dtt hsh) ?_|refine WO.does (yn rfl rfl Om) ?_|refine Tj ?_|intro _|refine Tc ?_|exact Tz)
 refine WC.loopI (σ:=Nat) (fun d=>2≤d∧d≤65536∧∀ e,2≤e→e<d→n%e≠0) (fun d=>[(0,.int .u64 (n:Int)),(3,.bool true),(4,.int .u64 (d:Int))]) (fun _=>[]) (fun d=>65537 - d) 2 (fun d hi=>?_) ⟨Nat.le_refl _,by decide,fun e h1 h2=>by omega⟩
 try dsimp only at hi ⊢
 obtain⟨hd2,hd,hno⟩:=hi;have hdd:d*d≤65536*65536:=Nat.mul_le_mul hd hd;have hmul:IntKind.u64.wrap ((d:Int)*(d:Int))=((d*d:Nat):Int):=by rw[Int.natCast_mul];exact u64_in (by rw[← Int.natCast_mul];omega) (by rw[← Int.natCast_mul];omega)
 by_cases hle:d*d≤n
 ·have hne:d≠65536:=by rintro rfl;omega
  have hadd:IntKind.u64.wrap ((d:Int)+1)=((d+1:Nat):Int):=uf Om Om Om
  by_cases hz:n%d=0
  ·rw[aaI hd2 hle hz]
   repeat (first|refine WO.does (ym rfl rfl hmul) ?_|refine Tj ?_|intro _|refine Tc ?_|exact Tz)
   refine WC.dT rfl Om ?_
   repeat (first|refine WO.does (mV rfl rfl Om) ?_|refine WO.does (zO rfl rfl Om) ?_|refine Tj ?_|intro _|refine Tc ?_|exact Tz)
   done
  ·repeat (first|refine WO.does (ym rfl rfl hmul) ?_|refine Tj ?_|intro _|refine Tc ?_|exact Tz)
   refine WC.dT rfl Om ?_
   repeat (first|refine WO.does (mV rfl rfl Om) ?_|refine WO.does (zR rfl rfl Om) ?_|refine WO.does (zi rfl rfl hadd) ?_|refine Tj ?_|intro _|refine Tc ?_|exact Tz)
   exact WX.metI (d+1) (hs:=⟨⟨by show 2≤d+1;omega,by show d+1≤65536;omega,fun e h1 h2=>by
    rcases Nat.lt_or_ge e d with h3|h3
    ·exact hno e h1 h3
    ·rw[show e=d by omega];exact hz⟩,by show 65537 - (d+1)<65537 - d;omega⟩)
 ·rw[fY Om Om (Nat.lt_of_not_le hle) hno]
  repeat (first|refine WO.does (ym rfl rfl hmul) ?_|refine Tj ?_|intro _|refine Tc ?_|exact Tz)
  refine WC.dF rfl Om ?_
  repeat (first|refine Tk ?_|intro _|exact Tz)
section
variable (p q g h:Nat) (f sec:Int) (pt:Option Addr) (c:Nat) (N:LP) (pz:Option Addr) (cz:Nat) (l:LN)
theorem pX {a q:Nat}:(0≤td a q)↔¬ a<q:=by
 unfold td;split
 ·rename_i h;subst h;simp
 ·split
  ·rename_i h;simp[h]
  ·rename_i h;simp[h]
end
section
variable {P:Program} {w0:World} {gs:LN} {K:List (Nat × Value)} {L:List Ent}
theorem vU {x y:Operand} {t yt ty:TypeId} {k:IntKind} {m n:Int} {b:Bool} (hx:ev K x=some (.int k m)) (hy:ev K y=some (.int k n)) (hr:decide (m<n)=b):Does P w0 gs K L (.binOp .lss t x y yt) ty (.bool b):=by
 cases b with
 | true=>exact vy hx hy (of_decide_eq_true hr)
 | false=>exact z7 hx hy (of_decide_eq_false hr)
theorem vL {x y:Operand} {t yt ty:TypeId} {k:IntKind} {m n:Int} {b:Bool} (hx:ev K x=some (.int k m)) (hy:ev K y=some (.int k n)) (hr:decide (m > n)=b):Does P w0 gs K L (.binOp .gtr t x y yt) ty (.bool b):=by
 cases b with
 | true=>exact tc hx hy (of_decide_eq_true hr)
 | false=>exact yn hx hy (of_decide_eq_false hr)
theorem dR {x y:Operand} {t yt ty:TypeId} {k:IntKind} {m n:Int} {b:Bool} (hx:ev K x=some (.int k m)) (hy:ev K y=some (.int k n)) (hr:decide (n≤m)=b):Does P w0 gs K L (.binOp .geq t x y yt) ty (.bool b):=by
 cases b with
 | true=>exact yP hx hy (of_decide_eq_true hr)
 | false=>exact zY hx hy (of_decide_eq_false hr)
theorem dx {x y:Operand} {t yt ty:TypeId} {k:IntKind} {m n:Int} {b:Bool} (hx:ev K x=some (.int k m)) (hy:ev K y=some (.int k n)) (hr:decide (m=n)=b):Does P w0 gs K L (.binOp .eql t x y yt) ty (.bool b):=by
 cases b with
 | true=>exact zO hx hy (of_decide_eq_true hr)
 | false=>exact zR hx hy (of_decide_eq_false hr)
end
theorem yT {g c n:Nat} (h:0<n):agV g c n n=AQ g n c:=by cases n with|zero=>omega|succ n=>rfl
theorem yr {t g:Nat} {B r:LV} {n:Nat} (h:0<n):rwL t g B r n=[⟨g,t,B++r⟩]:=by cases n with|zero=>omega|succ n=>rfl
abbrev csC (p q g h a:Nat) (f sec:Int) (ks:Value):List Value:=[.int .u64 ((wd 0 p:Nat):Int),.int .u64 ((wd 1 p:Nat):Int),.int .u64 ((wd 2 p:Nat):Int),.int .u64 ((wd 3 p:Nat):Int),.int .u64 ((wd 0 q:Nat):Int),.int .u64 ((wd 1 q:Nat):Int),.int .u64 ((wd 2 q:Nat):Int),.int .u64 ((wd 3 q:Nat):Int),.int .u64 ((wd 0 g:Nat):Int),.int .u64 ((wd 1 g:Nat):Int),.int .u64 ((wd 2 g:Nat):Int),.int .u64 ((wd 3 g:Nat):Int),.int .u64 ((wd 0 h:Nat):Int),.int .u64 ((wd 1 h:Nat):Int),.int .u64 ((wd 2 h:Nat):Int),.int .u64 ((wd 3 h:Nat):Int),.int .u64 ((wd 0 a:Nat):Int),.int .u64 ((wd 1 a:Nat):Int),.int .u64 ((wd 2 a:Nat):Int),.int .u64 ((wd 3 a:Nat):Int),.int .i64 f,.int .i64 sec,ks]
abbrev csV (p q g h a:Nat) (f sec:Int) (ks:Value):Value:=.agg #[.int .u64 ((wd 0 p:Nat):Int),.int .u64 ((wd 1 p:Nat):Int),.int .u64 ((wd 2 p:Nat):Int),.int .u64 ((wd 3 p:Nat):Int),.int .u64 ((wd 0 q:Nat):Int),.int .u64 ((wd 1 q:Nat):Int),.int .u64 ((wd 2 q:Nat):Int),.int .u64 ((wd 3 q:Nat):Int),.int .u64 ((wd 0 g:Nat):Int),.int .u64 ((wd 1 g:Nat):Int),.int .u64 ((wd 2 g:Nat):Int),.int .u64 ((wd 3 g:Nat):Int),.int .u64 ((wd 0 h:Nat):Int),.int .u64 ((wd 1 h:Nat):Int),.int .u64 ((wd 2 h:Nat):Int),.int .u64 ((wd 3 h:Nat):Int),.int .u64 ((wd 0 a:Nat):Int),.int .u64 ((wd 1 a:Nat):Int),.int .u64 ((wd 2 a:Nat):Int),.int .u64 ((wd 3 a:Nat):Int),.int .i64 f,.int .i64 sec,ks]
section
variable (p q g h a:Nat) (f sec:Int) (kv:Value)
theorem aeX (hp:p<ze) (hq:q<ze):Fn Tryz.prog 27 [csV p q g h a f sec kv] Tr (Is (.bool (rz p q))):=by
 have wp0:wd 0 p<18446744073709551616:=yd 0 p;have wq0:wd 0 q<18446744073709551616:=yd 0 q;have hS1:=nS (wd 0 p) wp0;have hS2:=nS (wd 0 q) wq0;have hO1:=aG (wd 0 p) wp0;have hO2:=aG (wd 0 q) wq0;have hwp:wd 0 p<ze:=sk wp0;have hwq:wd 0 q<ze:=sk wq0;obtain⟨b1,h1⟩ : ∃ b,decide (wd 0 p<4294967296)=b:=⟨_,rfl⟩;obtain⟨b2,h2⟩ : ∃ b,decide (1<wd 0 q)=b:=⟨_,rfl⟩;obtain⟨b3,h3⟩ : ∃ b,decide (p=wd 0 p)=b:=⟨_,rfl⟩;obtain⟨b4,h4⟩ : ∃ b,decide (q=wd 0 q)=b:=⟨_,rfl⟩;obtain⟨b7,h7⟩ : ∃ b,decide ((wd 0 p - 1)%wd 0 q=0)=b:=⟨_,rfl⟩;have g1:decide (((wd 0 p:Nat):Int)<4294967296)=b1:=by rw[← h1];exact decide_eq_decide.2 Om
 have g2:decide (((wd 0 q:Nat):Int) > 1)=b2:=by rw[← h2];exact decide_eq_decide.2 Om
 have hsm:vu (wd 0 p)=true→1≤wd 0 p:=fun h=>by
  unfold vu at h;simp only[Bool.and_eq_true,decide_eq_true_eq] at h;omega
 unfold rz;rw[h1,h2,h3,h4,h7];generalize hm1:vu (wd 0 p)=b5 at *;generalize vu (wd 0 q)=b6 at *;cases b1 with
 | false =>
  simp only[Bool.true_and,Bool.false_and,Bool.and_false];refine Fn.enter Tryz.func27 rfl rfl rfl ?_;intro w hw
  repeat (first|refine Tk ?_|intro _|exact Tz)
  refine WC.adraw 42 (k:=?_)
  iterate 42 (first|refine DQ.does (fun s _=>vU rfl rfl g1) Dp.const ?_|refine DQ.does (fun s _=>vL rfl rfl g2) Dp.const ?_|refine DQ.does (fun s _=>zB rfl rfl hp hwp h3) Dp.const ?_|refine DQ.does (fun s _=>zB rfl rfl hq hwq h4) Dp.const ?_|refine Da ?_|refine DQ.acall (hc:=hS1) (k:=?_)|refine DQ.acall (hc:=hS2) (k:=?_)|refine DQ.acall (hc:=hO1) (k:=?_)|refine DQ.acall (hc:=hO2) (k:=?_)|refine Dc ?_)
  refine DQ.anil (k:=?_);intro sx _
  repeat (first|refine Tk ?_|intro _|exact Tz)
  done
 | true =>
 cases b2 with
 | false =>
  simp only[Bool.true_and,Bool.false_and,Bool.and_false];refine Fn.enter Tryz.func27 rfl rfl rfl ?_;intro w hw
  repeat (first|refine Tk ?_|intro _|exact Tz)
  refine WC.adraw 42 (k:=?_)
  iterate 42 (first|refine DQ.does (fun s _=>vU rfl rfl g1) Dp.const ?_|refine DQ.does (fun s _=>vL rfl rfl g2) Dp.const ?_|refine DQ.does (fun s _=>zB rfl rfl hp hwp h3) Dp.const ?_|refine DQ.does (fun s _=>zB rfl rfl hq hwq h4) Dp.const ?_|refine Da ?_|refine DQ.acall (hc:=hS1) (k:=?_)|refine DQ.acall (hc:=hS2) (k:=?_)|refine DQ.acall (hc:=hO1) (k:=?_)|refine DQ.acall (hc:=hO2) (k:=?_)|refine Dc ?_)
  refine DQ.anil (k:=?_);intro sx _
  repeat (first|refine Tk ?_|intro _|exact Tz)
  done
 | true =>
 cases b3 with
 | false =>
  simp only[Bool.true_and,Bool.false_and,Bool.and_false];refine Fn.enter Tryz.func27 rfl rfl rfl ?_;intro w hw
  repeat (first|refine Tk ?_|intro _|exact Tz)
  refine WC.adraw 42 (k:=?_)
  iterate 42 (first|refine DQ.does (fun s _=>vU rfl rfl g1) Dp.const ?_|refine DQ.does (fun s _=>vL rfl rfl g2) Dp.const ?_|refine DQ.does (fun s _=>zB rfl rfl hp hwp h3) Dp.const ?_|refine DQ.does (fun s _=>zB rfl rfl hq hwq h4) Dp.const ?_|refine Da ?_|refine DQ.acall (hc:=hS1) (k:=?_)|refine DQ.acall (hc:=hS2) (k:=?_)|refine DQ.acall (hc:=hO1) (k:=?_)|refine DQ.acall (hc:=hO2) (k:=?_)|refine Dc ?_)
  refine DQ.anil (k:=?_);intro sx _
  repeat (first|refine Tk ?_|intro _|exact Tz)
  done
 | true =>
 cases b4 with
 | false =>
  simp only[Bool.true_and,Bool.false_and,Bool.and_false];refine Fn.enter Tryz.func27 rfl rfl rfl ?_;intro w hw
  repeat (first|refine Tk ?_|intro _|exact Tz)
  refine WC.adraw 42 (k:=?_)
  iterate 42 (first|refine DQ.does (fun s _=>vU rfl rfl g1) Dp.const ?_|refine DQ.does (fun s _=>vL rfl rfl g2) Dp.const ?_|refine DQ.does (fun s _=>zB rfl rfl hp hwp h3) Dp.const ?_|refine DQ.does (fun s _=>zB rfl rfl hq hwq h4) Dp.const ?_|refine Da ?_|refine DQ.acall (hc:=hS1) (k:=?_)|refine DQ.acall (hc:=hS2) (k:=?_)|refine DQ.acall (hc:=hO1) (k:=?_)|refine DQ.acall (hc:=hO2) (k:=?_)|refine Dc ?_)
  refine DQ.anil (k:=?_);intro sx _
  repeat (first|refine Tk ?_|intro _|exact Tz)
  done
 | true =>
 cases b5 with
 | false =>
  simp only[Bool.true_and,Bool.false_and,Bool.and_false];refine Fn.enter Tryz.func27 rfl rfl rfl ?_;intro w hw
  repeat (first|refine Tk ?_|intro _|exact Tz)
  refine WC.adraw 42 (k:=?_)
  iterate 42 (first|refine DQ.does (fun s _=>vU rfl rfl g1) Dp.const ?_|refine DQ.does (fun s _=>vL rfl rfl g2) Dp.const ?_|refine DQ.does (fun s _=>zB rfl rfl hp hwp h3) Dp.const ?_|refine DQ.does (fun s _=>zB rfl rfl hq hwq h4) Dp.const ?_|refine Da ?_|refine DQ.acall (hc:=hS1) (k:=?_)|refine DQ.acall (hc:=hS2) (k:=?_)|refine DQ.acall (hc:=hO1) (k:=?_)|refine DQ.acall (hc:=hO2) (k:=?_)|refine Dc ?_)
  refine DQ.anil (k:=?_);intro sx _
  repeat (first|refine Tk ?_|intro _|exact Tz)
  done
 | true =>
 cases b6 with
 | false =>
  simp only[Bool.true_and,Bool.false_and,Bool.and_false];refine Fn.enter Tryz.func27 rfl rfl rfl ?_;intro w hw
  repeat (first|refine Tk ?_|intro _|exact Tz)
  refine WC.adraw 42 (k:=?_)
  iterate 42 (first|refine DQ.does (fun s _=>vU rfl rfl g1) Dp.const ?_|refine DQ.does (fun s _=>vL rfl rfl g2) Dp.const ?_|refine DQ.does (fun s _=>zB rfl rfl hp hwp h3) Dp.const ?_|refine DQ.does (fun s _=>zB rfl rfl hq hwq h4) Dp.const ?_|refine Da ?_|refine DQ.acall (hc:=hS1) (k:=?_)|refine DQ.acall (hc:=hS2) (k:=?_)|refine DQ.acall (hc:=hO1) (k:=?_)|refine DQ.acall (hc:=hO2) (k:=?_)|refine Dc ?_)
  refine DQ.anil (k:=?_);intro sx _
  repeat (first|refine Tk ?_|intro _|exact Tz)
  done
 | true =>
 simp only[Bool.true_and];have hsub:IntKind.u64.wrap (((wd 0 p:Nat):Int) - 1)=((wd 0 p - 1:Nat):Int):=by have:=hsm rfl;exact uf Om Om Om
 have hq2:=of_decide_eq_true h2;have hrem:(((wd 0 p - 1:Nat):Int)).tmod ((wd 0 q:Nat):Int)=(((wd 0 p - 1)%wd 0 q:Nat):Int):=rfl;have g7:decide ((((wd 0 p - 1)%wd 0 q:Nat):Int)=0)=b7:=by rw[← h7];exact decide_eq_decide.2 Om
 refine Fn.enter Tryz.func27 rfl rfl rfl ?_;intro w hw
 repeat (first|refine Tk ?_|intro _|exact Tz)
 refine WC.adraw 42 (k:=?_)
 iterate 42 (first|refine DQ.does (fun s _=>vU rfl rfl g1) Dp.const ?_|refine DQ.does (fun s _=>vL rfl rfl g2) Dp.const ?_|refine DQ.does (fun s _=>zB rfl rfl hp hwp h3) Dp.const ?_|refine DQ.does (fun s _=>zB rfl rfl hq hwq h4) Dp.const ?_|refine DQ.does (fun s _=>zG rfl rfl hsub) Dp.const ?_|refine DQ.does (fun s _=>yK rfl rfl Om hrem) Dp.const ?_|refine DQ.does (fun s _=>dx rfl rfl g7) Dp.const ?_|refine Da ?_|refine DQ.acall (hc:=hS1) (k:=?_)|refine DQ.acall (hc:=hS2) (k:=?_)|refine DQ.acall (hc:=hO1) (k:=?_)|refine DQ.acall (hc:=hO2) (k:=?_)|refine Dc ?_)
 refine DQ.anil (k:=?_);intro sx _
 repeat (first|refine Tk ?_|intro _|exact Tz)
 done
end
def CsP (b:Bool) (p q g hh:Nat) (f sec:Int) (N:LP):Value→List Ent→Prop:=fun v M =>
 (b=true→∃ gN cN,v=.tuple #[stV p q g hh f sec (AQ gN N.length cN),.bool true]∧M=[⟨gN,105,N.flatMap ya++mkz (cN - N.length) (vC 0 0)⟩]∧N.length≤cN∧cN<9223372036854775808)∧(b=false→∃ cs:List Value,v=.tuple #[.agg cs.toArray,.bool false]∧cs.length=19∧cs.all Value.oneCell'=true)
theorem CsP.no {b:Bool} {p q g hh:Nat} {f sec:Int} {N:LP} {cs:LV} {M:List Ent} (h:b=false) (hl:cs.length=19:=by rfl) (h1:cs.all Value.oneCell'=true:=by rfl):CsP b p q g hh f sec N (.tuple #[.agg cs.toArray,.bool false]) M:=⟨fun e=>(by rw[h] at e;cases e),fun _=>⟨cs,rfl,hl,h1⟩⟩
section
variable (p q g h0 a:Nat) (f sec:Int) (pk:Option Addr) (ck:Nat) (ks:LP)
theorem agx (hp:p<ze) (hq:q<ze) (hg:g<ze) (hh0:h0<ze) (ha:a<ze) (hks:zZ ks)
  (hf1 : -9223372036854775808≤f) (hf2:f≤9223372036854775807) (hs1 : -9223372036854775808≤sec) (hs2:sec≤9223372036854775807) :
  Fn Tryz.prog 8 [csV p q g h0 a f sec (.slice pk ks.length ck)] (fun w=>RdF ya (.slice pk ks.length ck) ks w) (CsP (m4 p q g a f sec ks) p q g (exN p g a) f sec (csN p g a ks)):=by
 have hE:=vQ p q g h0 g a hg ha hp;have hPr:=aeX p q g h0 a f sec (.slice pk ks.length ck) hp hq;have h0b:(0:Nat)<ze:=by decide
 rw[show Is (rE (yB p g) (g ^ a%p))=Is (.tuple #[zk (exN p g a),.int .i64 (okE (yB p g))]) from rfl] at hE;have hhb:exN p g a<ze:=ub hp;have hno:∀ b1,yB p g=false∨a=0∨7<ks.length∨rz p q=false→m4 p q g a f sec ks=b1→b1=false:=fun b1 hc e=>by
  subst e;unfold m4
  rcases hc with h|h|h|h
  ·rw[h];simp
  ·rw[decide_eq_false (show ¬ a≠0 by omega)];simp
  ·rw[decide_eq_false (show ¬ ks.length≤7 by omega)];simp
  ·rw[h];simp
 cases e1:yB p g with
 | false =>
  have hc:=hno _ (.inl e1) rfl;rw[e1] at hE;rw[hc];have he:okE false≠0:=by decide
  generalize okE false=er at *;generalize exN p g a=hh at *;refine Fn.enter Tryz.func8 rfl rfl rfl ?_;intro w hw
  repeat (first|refine WO.does (yR rfl rfl he) ?_|refine Tj ?_|intro _|refine WO.acall (hc:=hE) (k:=?_)|refine Tc ?_|exact Tz)
  exact WX.ret2 rfl (zW rfl Hs.a rfl rfl) (zK rfl) [] Lle.nil (CsP.no rfl)
 | true =>
 rw[e1] at hE;rw[show okE true=0 from rfl] at hE
 by_cases e2:a=0
 ·have hc:=hno _ (.inr (.inl e2)) rfl;rw[hc];generalize exN p g a=hh at *;refine Fn.enter Tryz.func8 rfl rfl rfl ?_;intro w hw
  repeat (first|refine WO.does (zA rfl rfl rfl) ?_|refine WO.does (zz (cs:=zc 0) rfl rfl rfl) ?_|refine WO.does (zB rfl rfl ha h0b (decide_eq_true e2)) ?_|refine Tj ?_|intro _|refine WO.acall (hc:=hE) (k:=?_)|refine Tc ?_|exact Tz)
  exact WX.ret2 rfl (zW rfl Hs.a rfl rfl) (zK rfl) [] Lle.nil (CsP.no rfl)
 by_cases e3:7<ks.length
 ·have hc:=hno _ (.inr (.inr (.inl e3))) rfl;rw[hc];generalize exN p g a=hh at *;refine Fn.enter Tryz.func8 rfl rfl rfl ?_;intro w hw
  repeat (first|refine WO.does (zA rfl rfl rfl) ?_|refine WO.does (zz (cs:=zc 0) rfl rfl rfl) ?_|refine WO.does (zB rfl rfl ha h0b (decide_eq_false e2)) ?_|refine WO.does (tc rfl rfl Om) ?_|refine Tj ?_|intro _|refine WO.acall (hc:=hE) (k:=?_)|refine Tc ?_|exact Tz)
  exact WX.ret2 rfl (zW rfl Hs.a rfl rfl) (zK rfl) [] Lle.nil (CsP.no rfl)
 cases e4:rz p q with
 | false =>
  have hc:=hno _ (.inr (.inr (.inr e4))) rfl;rw[hc];rw[e4] at hPr;generalize exN p g a=hh at *;refine Fn.enter Tryz.func8 rfl rfl rfl ?_;intro w hw
  repeat (first|refine WO.does (zA rfl rfl rfl) ?_|refine WO.does (zz (cs:=zc 0) rfl rfl rfl) ?_|refine WO.does (zB rfl rfl ha h0b (decide_eq_false e2)) ?_|refine WO.does (yn rfl rfl Om) ?_|refine Tj ?_|intro _|refine WO.acall (hc:=hE) (k:=?_)|refine WO.acall (hc:=hPr) (k:=?_)|refine Tc ?_|exact Tz)
  exact WX.ret2 rfl (zW rfl Hs.a rfl rfl) (zK rfl) [] Lle.nil (CsP.no rfl)
 | true =>
 rw[e4] at hPr;have hcast:m4 p q g a f sec ks=((ks.all (lq q) && (decide (ks=[]) || yB p (exN p g a))) && y5 p q g (exN p g a) f sec (csN p g a ks)):=by
  unfold m4;rw[e1,e4,decide_eq_true e2,decide_eq_true (show ks.length≤7 by omega)];rfl
 have hS:=fun pt c=>yh p q g (exN p g a) f sec pt c (csN p g a ks) hp hq hg hhb (sL hp) (by rw[yW];omega) hf1 hf2 hs1 hs2;rw[yW] at hS;have hE1:=fun (k:Nat × Nat) (hk:k.1<ze∧k.2<ze)=>vQ p q g (exN p g a) g k.1 hg hk.1 hp;have hE2:=fun (k:Nat × Nat) (hk:k.1<ze∧k.2<ze)=>vQ p q g (exN p g a) (exN p g a) k.2 hhb hk.2 hp;have hC:=fun (x:Nat) (hx:x<ze)=>lD x q hx hq;have hNl:=yW p g a ks;have hNt:∀ i k,ks[i]?=some k→((csN p g a ks).take i).flatMap ya++ya (csK p g (exN p g a) k)=((csN p g a ks).take (i+1)).flatMap ya:=fun i k hk=>by
  rw[List.take_add_one,oW hk,List.flatMap_append];simp
 have hNtl:∀ i,i≤ks.length→(((csN p g a ks).take i).flatMap ya).length=i*8:=fun i hi=>by rw[zF v7,List.length_take,hNl];omega
 have hNall:(csN p g a ks).take ks.length=csN p g a ks:=by rw[← hNl,List.take_length]
 have hck:∀ k:Nat × Nat,csK p g (exN p g a) k=(exN p g k.1,exN p (exN p g a) k.2):=fun _=>rfl;generalize csN p g a ks=N at *;generalize hhh:exN p g a=hh at *;rw[hcast];clear hcast hno;refine Fn.enter Tryz.func8 rfl rfl rfl ?_;intro w hw
 repeat (first|refine WO.does (zA rfl rfl rfl) ?_|refine WO.does (zz (cs:=zc 0) rfl rfl rfl) ?_|refine WO.does (zB rfl rfl ha h0b (decide_eq_false e2)) ?_|refine WO.does (yn rfl rfl Om) ?_|refine Tj ?_|intro _|refine WO.acall (hc:=hE) (k:=?_)|refine WO.acall (hc:=hPr) (k:=?_)|refine Tc ?_|exact Tz)
 rename_i gZ gR gG gH gS
 refine WC.loopI (σ:=Nat × Nat × Nat) (fun s=>s.1≤ks.length∧(∀ k∈ks.take s.1,lq q k=true)∧(0<s.1→yB p hh=true∧s.2.2<9223372036854775808∧s.1≤s.2.2)) (fun s=>[(1,Sx.pt gZ),(2,Sx.pt gR),(4,Sx.pt gG),(7,Sx.pt gS),(8,.int .i64 (s.1:Int))])
  (fun s=>⟨gZ,29,csC p q g h0 a f sec (.slice pk ks.length ck)⟩::⟨gR,36,stC 0 0 0 0 0 0 (.slice none 0 0)⟩::⟨gG,26,yI p q g hh⟩::⟨gS,36,stC p q g hh f sec (agV s.2.1 s.2.2 s.1 s.1)⟩::rwL 105 s.2.1 ((N.take s.1).flatMap ya) (mkz (s.2.2 - s.1) (vC 0 0)) s.1) (fun s=>ks.length - s.1) (0,0,0) (fun s hi=>?_) ⟨Nat.zero_le _,fun k hk=>absurd hk Sm,fun h=>absurd h Dtt⟩
 obtain⟨i,gN,cN⟩:=s
 try dsimp only at hi ⊢
 obtain⟨hi,hsc,hr⟩:=hi
 by_cases hlt:i<ks.length
 ·obtain⟨k,hk⟩ : ∃ k,ks[i]?=some k:=⟨_,List.getElem?_eq_getElem hlt⟩;have hkm:=List.mem_of_getElem? hk;have hkb:=hks k hkm;have hadd:IntKind.i64.wrap ((i:Int)+1)=((i+1:Nat):Int):=zl Om Om Om;obtain⟨b,o,rfl,_,hs⟩:=id hw |>.get hk
  have hcy:cut (ks.flatMap ya) (o+i*8 - o) 8=ya k:=by rw[Nat.add_sub_cancel_left];exact zL v7 hk
  have hbad:lq q k=false→(ks.all (lq q) && (decide (ks=[]) || yB p hh) && y5 p q g hh f sec N)=false:=fun h=>by
   rw[show ks.all (lq q)=false from List.all_eq_false.2 ⟨k,hkm,by rw[h];decide⟩];rfl
  by_cases t1:k.1=0
  ·have hb:=hbad (by unfold lq;rw[decide_eq_false (show ¬ k.1≠0 by omega)];rfl)
   repeat (first|refine Tk ?_|intro _|exact Tz)
   refine WC.dT rfl Om ?_
   repeat (first|refine WO.does (zb (o':=o+i*8) rfl rfl hlt rfl) ?_|refine WO.does (zn (vs:=ya k) (hs:=hs) (hle:=Nat.le_add_right _ _) (hc:=hcy)) ?_|refine WO.does (zz (cs:=zc 0) rfl rfl rfl) ?_|refine WO.does (zB rfl rfl hkb.1 h0b (decide_eq_true t1)) ?_|refine Tj ?_|intro _|refine Tc ?_|exact Tz)
   exact WX.ret2 rfl (zW rfl Hs.a rfl rfl) (zK rfl) [] Lle.nil (CsP.no hb)
  by_cases t2:k.2=0
  ·have hb:=hbad (by unfold lq;rw[decide_eq_false (show ¬ k.2≠0 by omega)];simp)
   repeat (first|refine Tk ?_|intro _|exact Tz)
   refine WC.dT rfl Om ?_
   repeat (first|refine WO.does (zb (o':=o+i*8) rfl rfl hlt rfl) ?_|refine WO.does (zn (vs:=ya k) (hs:=hs) (hle:=Nat.le_add_right _ _) (hc:=hcy)) ?_|refine WO.does (zz (cs:=zc 0) rfl rfl rfl) ?_|refine WO.does (zB rfl rfl hkb.1 h0b (decide_eq_false t1)) ?_|refine WO.does (zB rfl rfl hkb.2 h0b (decide_eq_true t2)) ?_|refine Tj ?_|intro _|refine Tc ?_|exact Tz)
   exact WX.ret2 rfl (zW rfl Hs.a rfl rfl) (zK rfl) [] Lle.nil (CsP.no hb)
  have hC1:=hC k.1 hkb.1;have hC2:=hC k.2 hkb.2
  by_cases t3:k.1<q
  case neg =>
   have hb:=hbad (by unfold lq;rw[decide_eq_false t3];simp);have t3':=pX.2 t3
   repeat (first|refine Tk ?_|intro _|exact Tz)
   refine WC.dT rfl Om ?_
   repeat (first|refine WO.does (zb (o':=o+i*8) rfl rfl hlt rfl) ?_|refine WO.does (zn (vs:=ya k) (hs:=hs) (hle:=Nat.le_add_right _ _) (hc:=hcy)) ?_|refine WO.does (zz (cs:=zc 0) rfl rfl rfl) ?_|refine WO.does (zB rfl rfl hkb.1 h0b (decide_eq_false t1)) ?_|refine WO.does (zB rfl rfl hkb.2 h0b (decide_eq_false t2)) ?_|refine WO.does (yP rfl rfl t3') ?_|refine Tj ?_|intro _|refine WO.acall (hc:=hC1) (k:=?_)|refine Tc ?_|exact Tz)
   exact WX.ret2 rfl (zW rfl Hs.a rfl rfl) (zK rfl) [] Lle.nil (CsP.no hb)
  have t3' : ¬ 0≤td k.1 q:=fun h=>pX.1 h t3
  by_cases t4:k.2<q
  case neg =>
   have hb:=hbad (by unfold lq;rw[decide_eq_false t4];simp);have t4':=pX.2 t4
   repeat (first|refine Tk ?_|intro _|exact Tz)
   refine WC.dT rfl Om ?_
   repeat (first|refine WO.does (zb (o':=o+i*8) rfl rfl hlt rfl) ?_|refine WO.does (zn (vs:=ya k) (hs:=hs) (hle:=Nat.le_add_right _ _) (hc:=hcy)) ?_|refine WO.does (zz (cs:=zc 0) rfl rfl rfl) ?_|refine WO.does (zB rfl rfl hkb.1 h0b (decide_eq_false t1)) ?_|refine WO.does (zB rfl rfl hkb.2 h0b (decide_eq_false t2)) ?_|refine WO.does (zY rfl rfl t3') ?_|refine WO.does (yP rfl rfl t4') ?_|refine Tj ?_|intro _|refine WO.acall (hc:=hC1) (k:=?_)|refine WO.acall (hc:=hC2) (k:=?_)|refine Tc ?_|exact Tz)
   exact WX.ret2 rfl (zW rfl Hs.a rfl rfl) (zK rfl) [] Lle.nil (CsP.no hb)
  have t4' : ¬ 0≤td k.2 q:=fun h=>pX.1 h t4;have hX1:=hE1 k hkb;have hX2:=hE2 k hkb;rw[show Is (rE (yB p g) (g ^ k.1%p))=Is (.tuple #[zk (exN p g k.1),.int .i64 (okE (yB p g))]) from rfl,e1,show okE true=0 from rfl] at hX1;rw[show Is (rE (yB p hh) (hh ^ k.2%p))=Is (.tuple #[zk (exN p hh k.2),.int .i64 (okE (yB p hh))]) from rfl] at hX2;have hgood:lq q k=true:=by unfold lq;rw[decide_eq_true t1,decide_eq_true t2,decide_eq_true t3,decide_eq_true t4];rfl
  have hNi:=hNt i k hk;rw[hck k] at hNi;have hNl2:=hNtl i hi;generalize exN p g k.1=u1 at *;generalize exN p hh k.2=u2 at *;cases t5:yB p hh with
  | false =>
   have hb:(ks.all (lq q) && (decide (ks=[]) || yB p hh) && y5 p q g hh f sec N)=false:=by
    rw[t5,decide_eq_false (fun e=>by rw[e] at hkm;cases hkm)];simp
   rw[t5] at hX2 hb;have he:okE false≠0:=by decide
   generalize okE false=er at *
   repeat (first|refine Tk ?_|intro _|exact Tz)
   refine WC.dT rfl Om ?_
   repeat (first|refine WO.does (zb (o':=o+i*8) rfl rfl hlt rfl) ?_|refine WO.does (zn (vs:=ya k) (hs:=hs) (hle:=Nat.le_add_right _ _) (hc:=hcy)) ?_|refine WO.does (zz (cs:=zc 0) rfl rfl rfl) ?_|refine WO.does (zB rfl rfl hkb.1 h0b (decide_eq_false t1)) ?_|refine WO.does (zB rfl rfl hkb.2 h0b (decide_eq_false t2)) ?_|refine WO.does (zY rfl rfl t3') ?_|refine WO.does (zY rfl rfl t4') ?_|refine WO.does (zA rfl rfl rfl) ?_|refine WO.does (yR rfl rfl he) ?_|refine Tj ?_|intro _|refine WO.acall (hc:=hC1) (k:=?_)|refine WO.acall (hc:=hC2) (k:=?_)|refine WO.acall (hc:=hX1) (k:=?_)|refine WO.acall (hc:=hX2) (k:=?_)|refine Tc ?_|exact Tz)
   exact WX.ret2 rfl (zW rfl Hs.a rfl rfl) (zK rfl) [] Lle.nil (CsP.no hb)
  | true =>
  rw[t5,show okE true=0 from rfl] at hX2;have hsc2:∀ x∈ks.take (i+1),lq q x=true:=fun x hx=>by
   rw[List.take_add_one,hk] at hx
   rcases List.mem_append.1 hx with h|h
   ·exact hsc x h
   ·rw[Option.toList_some,List.mem_singleton] at h;rw[h];exact hgood
  rcases i with _|i
  ·have hN1:ya (u1,u2)=(N.take (0+1)).flatMap ya:=by simpa using hNi
   try dsimp only[agV,rwL]
   repeat (first|refine Tk ?_|intro _|exact Tz)
   refine WC.dT rfl Om ?_
   repeat (first|refine WO.does (zb (o':=o+i*8) rfl rfl hlt rfl) ?_|refine WO.does (zn (vs:=ya k) (hs:=hs) (hle:=Nat.le_add_right _ _) (hc:=hcy)) ?_|refine WO.does (zz (cs:=zc 0) rfl rfl rfl) ?_|refine WO.does (zB rfl rfl hkb.1 h0b (decide_eq_false t1)) ?_|refine WO.does (zB rfl rfl hkb.2 h0b (decide_eq_false t2)) ?_|refine WO.does (zY rfl rfl t3') ?_|refine WO.does (zY rfl rfl t4') ?_|refine WO.does (zA rfl rfl rfl) ?_|refine WO.does (tk (cs:=ya (u1,u2)) (h2:=rfl)) ?_|refine Tj ?_|intro _|refine WO.acall (hc:=hC1) (k:=?_)|refine WO.acall (hc:=hC2) (k:=?_)|refine WO.acall (hc:=hX1) (k:=?_)|refine WO.acall (hc:=hX2) (k:=?_)|(refine WO.makes (zh (cs:=ya (u1,u2)) rfl Dtt rfl) ?_;intro _)|refine Tc ?_|exact Tz)
   refine WO.appNZ (z:=vC 0 0) (ys:=ya (u1,u2)) (m:=1) rfl rfl rfl (Rds.own (m:=8) Hs.here rfl) rfl Dtt Dtt Dtt Dtt (fun g1 c1 a2 a3=>?_);rw[hN1]
   repeat (first|refine WO.does (zi rfl rfl hadd) ?_|refine Tj ?_|intro _|refine Tc ?_|exact Tz)
   exact WX.metI (0+1,g1,c1) (hs:=⟨⟨by show 0+1≤ks.length;omega,hsc2,fun _=>⟨rfl,a2,a3⟩⟩,by show ks.length - (0+1)<ks.length - 0;omega⟩)
  ·obtain⟨_,r1,r2⟩:=hr Om
   try dsimp only[agV,rwL]
   repeat (first|refine Tk ?_|intro _|exact Tz)
   refine WC.dT rfl Om ?_
   repeat (first|refine WO.does (zb (o':=o+i*8) rfl rfl hlt rfl) ?_|refine WO.does (zn (vs:=ya k) (hs:=hs) (hle:=Nat.le_add_right _ _) (hc:=hcy)) ?_|refine WO.does (zz (cs:=zc 0) rfl rfl rfl) ?_|refine WO.does (zB rfl rfl hkb.1 h0b (decide_eq_false t1)) ?_|refine WO.does (zB rfl rfl hkb.2 h0b (decide_eq_false t2)) ?_|refine WO.does (zY rfl rfl t3') ?_|refine WO.does (zY rfl rfl t4') ?_|refine WO.does (zA rfl rfl rfl) ?_|refine WO.does (tk (cs:=ya (u1,u2)) (h2:=rfl)) ?_|refine Tj ?_|intro _|refine WO.acall (hc:=hC1) (k:=?_)|refine WO.acall (hc:=hC2) (k:=?_)|refine WO.acall (hc:=hX1) (k:=?_)|refine WO.acall (hc:=hX2) (k:=?_)|(refine WO.makes (zh (cs:=ya (u1,u2)) rfl Dtt rfl) ?_;intro _)|refine Tc ?_|exact Tz)
   refine WO.appKZ (z:=vC 0 0) (m:=1) (l:=i+1+1) rfl rfl rfl (xs:=(N.take (i+1)).flatMap ya) (ys:=ya (u1,u2)) hNl2 r2 Pk.a (Rds.own (m:=8) Hs.here rfl) rfl rfl rfl Om r1 Om Dtt Dtt (fun g1 c1 a2 a3=>?_);rw[hNi]
   repeat (first|refine WO.does (zi rfl rfl hadd) ?_|refine Tj ?_|intro _|refine Tc ?_|exact Tz)
   exact WX.metI (i+1+1,g1,c1) (hs:=⟨⟨by show i+1+1≤ks.length;omega,hsc2,fun _=>⟨rfl,a2,a3⟩⟩,by show ks.length - (i+1+1)<ks.length - (i+1);omega⟩)
 ·have hi3:i=ks.length:=by omega
  subst hi3;rw[List.take_length] at hsc;rw[hNall];have hall:ks.all (lq q)=true:=List.all_eq_true.2 hsc
  rcases Nat.eq_zero_or_pos ks.length with h0|hpos
  ·have hS0:=hS none 0;have hN0:N=[]:=List.eq_nil_of_length_eq_zero Om;have hsf:y5 p q g hh f sec N=false:=by
    cases hsb:y5 p q g hh f sec N with
    | false=>rfl
    | true=>have:=(zS hsb).1;omega
   rw[hsf,h0] at hS0;rw[hsf,Bool.and_false];rw[show agV gN cN ks.length ks.length=.slice none 0 0 by rw[h0];rfl,show ∀ B r,rwL 105 gN B r ks.length=[] from fun B r=>by rw[h0];rfl]
   repeat (first|refine Tk ?_|intro _|exact Tz)
   refine WC.dF rfl Om ?_
   repeat (first|refine Tk ?_|intro _|exact Tz)
   refine WC.adraw 3 (k:=?_)
   iterate 3 (first|refine DQ.acallR (hc:=hS0) (hR:=fun w1 hm=>by rw[hN0];exact RdF.nilV) (k:=?_)|refine Da ?_|refine Dc ?_)
   refine DQ.anil (k:=?_);intro sx _
   repeat (first|refine Tk ?_|intro _|exact Tz)
   exact WX.ret2 rfl (zW rfl Hs.a rfl rfl) (zK rfl) [] Lle.nil (CsP.no rfl)
  ·obtain⟨t5,r1,r2⟩:=hr hpos;rw[yT hpos,yr hpos];have hSp:=hS (some ⟨gN,0,none⟩) cN;rw[hall,t5,Bool.or_true,Bool.true_and,Bool.true_and];have hNl' : N.length=ks.length:=hNl;cases hsb:y5 p q g hh f sec N with
   | false =>
    rw[hsb] at hSp
    repeat (first|refine Tk ?_|intro _|exact Tz)
    refine WC.dF rfl Om ?_
    repeat (first|refine Tk ?_|intro _|exact Tz)
    refine WC.adraw 3 (k:=?_)
    iterate 3 (first|refine DQ.acallR (hc:=hSp) (hR:=fun w1 hm=>RdF.ownO (Hs.sg hm) hNl') (k:=?_)|refine Da ?_|refine Dc ?_)
    refine DQ.anil (k:=?_);intro sx _
    repeat (first|refine Tk ?_|intro _|exact Tz)
    exact WX.ret2 rfl (zW rfl Hs.a rfl rfl) (zK rfl) [] Lle.nil (CsP.no rfl)
   | true =>
    rw[hsb] at hSp
    repeat (first|refine Tk ?_|intro _|exact Tz)
    refine WC.dF rfl Om ?_
    repeat (first|refine Tk ?_|intro _|exact Tz)
    refine WC.adraw 3 (k:=?_)
    iterate 3 (first|refine DQ.acallR (hc:=hSp) (hR:=fun w1 hm=>RdF.ownO (Hs.sg hm) hNl') (k:=?_)|refine Da ?_|refine Dc ?_)
    refine DQ.anil (k:=?_);intro sx _
    repeat (first|refine Tk ?_|intro _|exact Tz)
    exact WX.ret2 rfl (zW rfl Hs.a rfl rfl) (zK rfl) [⟨gN,105,N.flatMap ya++mkz (cN - ks.length) (vC 0 0)⟩] (Lle.c Lle.nil) ⟨fun _=>⟨gN,cN,by rw[hNl'];rfl,by rw[hNl'],by omega,r1⟩,fun e=>by cases e⟩
end
section
open Kp
variable {P:Program} {w0:World} {gs:LN} {n:Nat} {fl:LN} {Q:Exit→Act→World→Prop} {ops:List Oper} {L0:List Ent}
variable {tail rest:List Oper} {i:Nat} {C:zT→Prop} {K:zT→List (Nat × Value)} {N:zT→List (Nat × Ent)}
variable {d:Nat} {op:Op} {ty:TypeId} {pos:String} {after:Array Edge} {gd:Option (Nat × Bool)}
theorem DQ.acallX {f:FuncId} [Cal P f] {xs:Array Operand} {ats:Array TypeId} {vs:LV} {Rq:World→Prop} {vf:(Nat→Nat)→Value} {Nf:(Nat→Nat)→List Ent} (hc:Fn P f vs Rq (Ex vf Nf (fun _=>True))) (hR:∀ w,Mr w0 gs L0 w→Rq w) (ha:∀ s,evs (K s) xs.toList=some vs:=by (intro s;rfl))
  (k:DQ P w0 gs n fl Q ops L0 tail (i+1) rest (fun s=>C s∧True) (fun s=>(d,vf (s i))::K s) (fun s=>(Nf (s i)).map (fun e=>(i,e))++N s))
  (hfl:fl.contains i=false:=by rfl) (hw:∀ s,wk ops (K s) gd=some true:=by intro _;rfl) (hd:Nat.blt d n=true:=by rfl) :
  DQ P w0 gs n fl Q ops L0 tail i (⟨some d,.call { callee:=.value (.func f),args:=xs,argTypes:=ats },ty,pos,after,gd⟩::rest) C K N :=
 DQ.callsE (fs:=fun _=>[]) (cs:=fun _=>[]) (R:=fun _=>Rq) (vf:=fun _ x=>vf x) (Nf:=fun _ x=>Nf x) (S:=fun _ _=>True) (fun _=>[]) (fun _=>.nil)
  (fun _=>⟨fun _=>0,trivial⟩) (fun _ _=>hc) (fun _=>rfl) ha (fun _=>by simp) (fun _ _ w h=>hR w h) Dp.const Dp.const Dp.const k hfl hw hd
end
def RdE {α:Type} (f:α→List Value) (v:Value) (xs:List α) (w:World):Prop:=∃ pt c,v=.slice pt xs.length c∧(xs=[]∨∃ b o,pt=some ⟨b,o,none⟩∧Seg w b o (xs.flatMap f))
theorem RdE.get {α:Type} {f:α→List Value} {pz:Option Addr} {n c:Nat} {xs:List α} {w:World} (h:RdE f (.slice pz n c) xs w) {i:Nat} {x:α} (hx:xs[i]?=some x):∃ b o,pz=some ⟨b,o,none⟩∧n=xs.length∧Seg w b o (xs.flatMap f):=by
 obtain⟨p,c',e,h⟩:=h;cases e
 rcases h with rfl|⟨b,o,rfl,hs⟩
 ·simp at hx
 ·exact⟨b,o,rfl,rfl,hs⟩
theorem RdF.toE {α:Type} {f:α→List Value} {v:Value} {xs:List α} {w:World} (h:RdF f v xs w):RdE f v xs w:=by
 obtain⟨pt,c,e,h⟩:=h;exact⟨pt,c,e,h.imp (fun h=>h.2) id⟩
abbrev jX (n:Nat):List Value:=[.int .u32 (n:Int)]
abbrev dqC (d:Nat) (ps:Value):List Value:=[.int .u8 (d:Int),ps]
abbrev dqV (d:Nat) (ps:Value):Value:=.agg #[.int .u8 (d:Int),ps]
def dqP (q:Nat) (P:LN) (i:Nat):Nat:=if i<P.length then P.getD i 0%q else 0
def dqL (q:Nat) (P:LN) (n:Nat):List Nat:=(List.range n).map (dqP q P)
def dqD (n d:Nat):Nat:=1+d%n
theorem uF (q:Nat) (P:LN) (n:Nat):(dqL q P n).length=n:=by simp[dqL]
theorem dJ {q:Nat} {P:LN} (hq:0<q) (i:Nat):dqP q P i<q:=by
 unfold dqP;split
 ·exact Nat.mod_lt _ hq
 ·exact hq
theorem cQ {q:Nat} {P:LN} {n:Nat} (hq:0<q):∀ a∈dqL q P n,a<q:=fun a h=>by
 obtain⟨i,_,rfl⟩:=List.mem_map.1 h;exact dJ hq i
theorem cf {q:Nat} {P:LN} {n:Nat} (hq:1<q):uz q (dqL q P n)=true:=by
 unfold uz;rw[decide_eq_true hq,Bool.true_and,List.all_eq_true];exact fun a h=>decide_eq_true (cQ Om a h)
section
variable {p q g a:Nat} {F m:Nat} {ks:LP}
theorem mX (hc:sc p q g a (F:Int) (m:Int) ks) (d:Nat) (P:LN) (hn:0<ks.length):gm p q g (exN p g a) (F:Int) (m:Int) (csN p g a ks) (dqD ks.length d) (dqL q P (F+m)) (ks.getD (dqD ks.length d - 1) (0,0)).1=true:=by
 have hS:=hc.set;have hsp:=zS hS;have hdn:d%ks.length<ks.length:=Nat.mod_lt _ hn;unfold gm;rw[hS,cf Om,decide_eq_true (show (((dqL q P (F+m)).length:Nat):Int)=(F:Int)+(m:Int) by rw[uF];omega)];have hnode:qD (dqD ks.length d) (csN p g a ks)=true:=by
  unfold qD dqD;rw[yW,decide_eq_true Om,decide_eq_true Om];rfl
 rw[hnode];simp only[Bool.true_and];have hi:dqD ks.length d - 1<ks.length:=by unfold dqD;omega
 obtain⟨k,hk⟩ : ∃ k,ks[dqD ks.length d - 1]?=some k:=⟨_,List.getElem?_eq_getElem hi⟩;have hkq:=hc.scr k (List.mem_of_getElem? hk);rw[show ks.getD (dqD ks.length d - 1) (0,0)=k by rw[List.getD_eq_getElem?_getD,hk];rfl];have hsg:sgK (csN p g a ks) (dqD ks.length d)=exN p g k.1:=by
  unfold sgK;rw[List.getD_eq_getElem?_getD,oW hk];rfl
 rw[hsg];obtain⟨kg,_⟩:=tT hS;have hgI:=(li kg).1;unfold adL;rw[vM Om hkq.1,vj hgI,pL hgI,decide_eq_true rfl];rfl
end
section
variable (p q g h0 a:Nat) (F m:Nat) (pk:Option Addr) (ck:Nat) (ks:LP) (pt:Option Addr) (c:Nat) (ep d:Nat) (pP:Option Addr) (cP:Nat) (P:LN)
theorem adr (hc:sc p q g a (F:Int) (m:Int) ks) (hn:0<ks.length) (hp:p<ze) (hq:q<ze) (hg:g<ze) (hh0:h0<ze) (ha:a<ze) (hks:zZ ks) (hP:∀ x∈P,x<4294967296) (hd:d<256) (hep:ep<18446744073709551616) :
  Fn Tryz.prog 30 [csV p q g h0 a (F:Int) (m:Int) (.slice pk ks.length ck),stV p q g (exN p g a) (F:Int) (m:Int) (.slice pt ks.length c),.int .u64 (ep:Int),dqV d (.slice pP P.length cP)]
   (fun w=>RdF ya (.slice pk ks.length ck) ks w∧RdF ya (.slice pt ks.length c) (csN p g a ks) w∧RdE jX (.slice pP P.length cP) P w)
   (Ex (fun s => dlV ep (dqD ks.length d) (.slice (some ⟨s 0, 0, none⟩) ks.length ks.length) (.slice (some ⟨s 1, 0, none⟩) ks.length ks.length) (.slice (some ⟨s 2, 0, none⟩) ks.length ks.length)
       (dSg p q g (dqL q P (F+m)) (csN p g a ks) ep (dqD ks.length d) (ks.getD (dqD ks.length d - 1) (0,0)).1 ks.length).1 (dSg p q g (dqL q P (F+m)) (csN p g a ks) ep (dqD ks.length d) (ks.getD (dqD ks.length d - 1) (0,0)).1 ks.length).2)
    (fun s=>[⟨s 2,117,(dPs p q g (dqL q P (F+m)) (csN p g a ks) ep (dqD ks.length d) (ks.getD (dqD ks.length d - 1) (0,0)).1 ks.length).flatMap pfC⟩,⟨s 1,24,(dYs p q (dqL q P (F+m)) (csN p g a ks) ks.length).flatMap zc⟩,⟨s 0,24,(dVs p q g (dqL q P (F+m)) ks.length).flatMap zc⟩]) (fun _=>True)):=by
 have hS:=hc.set;have hsp:=zS hS;have hq1:1<q:=by omega
 have hdn:d%ks.length<ks.length:=Nat.mod_lt _ hn;have hk7:=hc.len;have hhb:exN p g a<ze:=ub hp;have hdD:dqD ks.length d=1+d%ks.length:=rfl;have hiD:dqD ks.length d - 1<ks.length:=by omega
 obtain⟨k,hk⟩ : ∃ k,ks[dqD ks.length d - 1]?=some k:=⟨_,List.getElem?_eq_getElem hiD⟩;have hkb:=hks k (List.mem_of_getElem? hk);have hB:=mX hc d P hn;rw[show ks.getD (dqD ks.length d - 1) (0,0)=k by rw[List.getD_eq_getElem?_getD,hk];rfl] at hB ⊢;have hll:=uF q P (F+m);have hF5:(F:Int)+(m:Int)≤5:=hsp.2.2.2.2.2.1;have hD:=fun (gz cz:Nat)=>acY p q g (exN p g a) (F:Int) (m:Int) pt c (csN p g a ks) ep (dqD ks.length d) k.1 (some ⟨gz,0,none⟩) cz (dqL q P (F+m)) hp hq hg hhb (sL hp) (by rw[yW];omega) (fun x hx=>Nat.lt_trans (cQ Om x hx) hq) (by rw[hll];omega) Om Om Om Om Om hkb.1 hep hB;rw[yW,hll] at hD;have hcv8:IntKind.u8.wrap (ks.length:Int)=(ks.length:Int):=u8_in Om Om;have hrm8:((d:Int)).tmod (ks.length:Int)=((d%ks.length:Nat):Int):=rfl;have hadd8:IntKind.u8.wrap ((1:Int)+((d%ks.length:Nat):Int))=((dqD ks.length d:Nat):Int):=tt Om Om Om;have hsb8:IntKind.u8.wrap (((dqD ks.length d:Nat):Int) - 1)=((dqD ks.length d - 1:Nat):Int):=tt Om Om Om;have hFm:IntKind.i64.wrap ((F:Int)+(m:Int))=((F+m:Nat):Int):=zl Om Om Om;have hq64:q<18446744073709551616:=by have:=hc.q32;omega
 have hwq:wd 0 q=q:=c9 hq64;have hLs:∀ i,(dqL q P i).flatMap zc++zc (dqP q P i)=(dqL q P (i+1)).flatMap zc:=fun i=>by unfold dqL;rw[yD,List.flatMap_append];simp
 have hLl:∀ i,((dqL q P i).flatMap zc).length=i*4:=fun i=>by rw[zF zU,uF]
 have hPi:∀ i,dqP q P i<18446744073709551616:=fun i=>Nat.lt_trans (dJ Om i) hq64;have hnw:∀ i,zc (dqP q P i)=[.int .u64 ((dqP q P i:Nat):Int),wZ 1 0,wZ 2 0,wZ 3 0]:=fun i=>ij (hPi i);clear hS hB;refine Fn.enter Tryz.func30 rfl rfl rfl ?_;intro w hw;obtain⟨wK,wN,wP⟩:=hw
 repeat (first|refine WO.does (zr rfl hcv8) ?_|refine WO.does (yK rfl rfl Om hrm8) ?_|refine WO.does (zi rfl rfl hadd8) ?_|refine Tj ?_|intro _|refine Tc ?_|exact Tz)
 rename_i gZ gS gX gR
 refine WC.loopI (σ:=Nat × Nat × Nat) (fun s=>s.1≤F+m∧(0<s.1→s.2.2<9223372036854775808∧s.1≤s.2.2)) (fun s=>[(2,.int .u64 (ep:Int)),(4,Sx.pt gZ),(5,Sx.pt gS),(7,Sx.pt gX),(8,Sx.pt gR),(9,.int .u8 ((dqD ks.length d:Nat):Int)),(10,agV s.2.1 s.2.2 s.1 s.1),(11,.int .i64 (s.1:Int))])
  (fun s=>⟨gZ,29,csC p q g h0 a (F:Int) (m:Int) (.slice pk ks.length ck)⟩::⟨gS,36,stC p q g (exN p g a) (F:Int) (m:Int) (.slice pt ks.length c)⟩::⟨gX,109,dqC d (.slice pP P.length cP)⟩::⟨gR,51,dlC 0 0 (.slice none 0 0) (.slice none 0 0) (.slice none 0 0) 0 0⟩::rwL 24 s.2.1 ((dqL q P s.1).flatMap zc) (mkz (s.2.2 - s.1) (zc 0)) s.1) (fun s=>F+m - s.1) (0,0,0) (fun s hi=>?_) ⟨Nat.zero_le _,fun h=>absurd h Dtt⟩
 obtain⟨i,gl,cl⟩:=s
 try dsimp only at hi ⊢
 obtain⟨hi,hr⟩:=hi
 by_cases hlt:i<F+m
 ·have hadd2:IntKind.i64.wrap ((i:Int)+1)=((i+1:Nat):Int):=zl Om Om Om;have hNs:=hLs i;have hNl:=hLl i;have hw4:=hnw i
  by_cases hiP:i<P.length
  ·obtain⟨x,hx⟩ : ∃ x,P[i]?=some x:=⟨_,List.getElem?_eq_getElem hiP⟩;have hxb:=hP x (List.mem_of_getElem? hx);have hv:dqP q P i=x%q:=by unfold dqP;rw[if_pos hiP,List.getD_eq_getElem?_getD,hx];rfl
   rw[hv] at hw4 hNs;have hcvx:IntKind.u64.wrap (x:Int)=(x:Int):=u64_in Om Om;have hrmx:((x:Int)).tmod ((wd 0 q:Nat):Int)=((x%q:Nat):Int):=by rw[hwq];rfl
   have hwq0:((wd 0 q:Nat):Int)≠0:=by rw[hwq];omega
   obtain⟨bP,oP,rfl,_,hsP⟩:=id wP |>.get hx
   obtain⟨io,hio⟩ : ∃ io,oP+i*1=io:=⟨_,rfl⟩;have hiol:oP≤io:=by omega
   have hcP:(P.flatMap jX)[io - oP]?=some (.int .u32 (x:Int)):=by
    rw[← hio,Nat.add_sub_cancel_left,Nat.mul_one];have h1:=zL (f:=jX) (k:=1) (fun _=>rfl) hx;rw[Nat.mul_one] at h1;have h2:=vb (j:=0) (v:=.int .u32 (x:Int)) h1 rfl;rwa [Nat.add_zero] at h2
   generalize x%q=v at *
   rcases i with _|i
   ·have hB1:[.int .u64 ((v:Nat):Int),wZ 1 0,wZ 2 0,wZ 3 0]=(dqL q P (0+1)).flatMap zc:=by have h:=hNs;rw[hw4] at h;exact h
    try dsimp only[agV,rwL]
    repeat (first|refine WO.does (zi rfl rfl hFm) ?_|refine Tj ?_|intro _|refine Tc ?_|exact Tz)
    refine WC.dT rfl Om ?_
    repeat (first|refine WO.does (vy rfl rfl Om) ?_|refine Tj ?_|intro _|refine Tc ?_|exact Tz)
    refine WC.adraw 12 (k:=?_)
    iterate 3 refine Dx ?_
    refine DQ.does (fun s _=>zb (o':=io) rfl rfl hiP hio) Dp.const ?_;refine DQ.does (fun s _=>zm (hs:=hsP) (hle:=hiol) (hc:=hcP)) Dp.const ?_;refine DQ.does (fun s _=>zr rfl hcvx) Dp.const ?_
    iterate 4 refine Dx ?_
    refine DQ.does (fun s _=>yK rfl rfl hwq0 hrmx) Dp.const ?_;refine Dx ?_;refine DQ.anil (k:=?_);intro sx _
    repeat (first|refine WO.does (zz (cs:=[.int .u64 ((v:Nat):Int),wZ 1 0,wZ 2 0,wZ 3 0]) rfl rfl Kr) ?_|refine Tj ?_|intro _|(refine WO.makes (zh (cs:=[.int .u64 ((v:Nat):Int),wZ 1 0,wZ 2 0,wZ 3 0]) rfl Dtt rfl) ?_;intro _)|refine Tc ?_|exact Tz)
    refine WO.appNZ (z:=zc 0) (ys:=[.int .u64 ((v:Nat):Int),wZ 1 0,wZ 2 0,wZ 3 0]) (m:=1) rfl rfl rfl (Rds.own (m:=4) Hs.here rfl) rfl Dtt Dtt Dtt Dtt (fun g1 c1 a2 a3=>?_);rw[hB1]
    repeat (first|refine WO.does (zi rfl rfl hadd2) ?_|refine Tj ?_|intro _|refine Tc ?_|exact Tz)
    exact WX.metI (0+1,g1,c1) (hs:=⟨⟨by show 0+1≤F+m;omega,fun _=>⟨a2,a3⟩⟩,by show F+m - (0+1)<F+m - 0;omega⟩)
   ·obtain⟨r1,r2⟩:=hr Om;have hB2:(dqL q P (i+1)).flatMap zc++[.int .u64 ((v:Nat):Int),wZ 1 0,wZ 2 0,wZ 3 0]=(dqL q P (i+1+1)).flatMap zc:=by have h:=hNs;rw[hw4] at h;exact h
    try dsimp only[agV,rwL]
    repeat (first|refine WO.does (zi rfl rfl hFm) ?_|refine Tj ?_|intro _|refine Tc ?_|exact Tz)
    refine WC.dT rfl Om ?_
    repeat (first|refine WO.does (vy rfl rfl Om) ?_|refine Tj ?_|intro _|refine Tc ?_|exact Tz)
    refine WC.adraw 12 (k:=?_)
    iterate 3 refine Dx ?_
    refine DQ.does (fun s _=>zb (o':=io) rfl rfl hiP hio) Dp.const ?_;refine DQ.does (fun s _=>zm (hs:=hsP) (hle:=hiol) (hc:=hcP)) Dp.const ?_;refine DQ.does (fun s _=>zr rfl hcvx) Dp.const ?_
    iterate 4 refine Dx ?_
    refine DQ.does (fun s _=>yK rfl rfl hwq0 hrmx) Dp.const ?_;refine Dx ?_;refine DQ.anil (k:=?_);intro sx _
    repeat (first|refine WO.does (zz (cs:=[.int .u64 ((v:Nat):Int),wZ 1 0,wZ 2 0,wZ 3 0]) rfl rfl Kr) ?_|refine Tj ?_|intro _|(refine WO.makes (zh (cs:=[.int .u64 ((v:Nat):Int),wZ 1 0,wZ 2 0,wZ 3 0]) rfl Dtt rfl) ?_;intro _)|refine Tc ?_|exact Tz)
    refine WO.appKZ (z:=zc 0) (m:=1) (l:=i+1+1) rfl rfl rfl (xs:=(dqL q P (i+1)).flatMap zc) (ys:=[.int .u64 ((v:Nat):Int),wZ 1 0,wZ 2 0,wZ 3 0]) hNl r2 Pk.a (Rds.own (m:=4) Hs.here rfl) rfl rfl rfl Om r1 Om Dtt Dtt (fun g1 c1 a2 a3=>?_);rw[hB2]
    repeat (first|refine WO.does (zi rfl rfl hadd2) ?_|refine Tj ?_|intro _|refine Tc ?_|exact Tz)
    exact WX.metI (i+1+1,g1,c1) (hs:=⟨⟨by show i+1+1≤F+m;omega,fun _=>⟨a2,a3⟩⟩,by show F+m - (i+1+1)<F+m - (i+1);omega⟩)
  ·have hv:dqP q P i=0:=by unfold dqP;rw[if_neg hiP]
   rw[hv] at hw4 hNs;generalize hv0:(0:Nat)=v at hw4 hNs;subst hv0
   rcases i with _|i
   ·have hB1:[.int .u64 0,wZ 1 0,wZ 2 0,wZ 3 0]=(dqL q P (0+1)).flatMap zc:=by have h:=hNs;rw[hw4] at h;exact h
    try dsimp only[agV,rwL]
    repeat (first|refine WO.does (zi rfl rfl hFm) ?_|refine Tj ?_|intro _|refine Tc ?_|exact Tz)
    refine WC.dT rfl Om ?_
    repeat (first|refine WO.does (z7 rfl rfl Om) ?_|refine Tj ?_|intro _|refine Tc ?_|exact Tz)
    repeat (first|refine WO.does (zz (cs:=[.int .u64 0,wZ 1 0,wZ 2 0,wZ 3 0]) rfl rfl Kr) ?_|refine Tj ?_|intro _|(refine WO.makes (zh (cs:=[.int .u64 0,wZ 1 0,wZ 2 0,wZ 3 0]) rfl Dtt rfl) ?_;intro _)|refine Tc ?_|exact Tz)
    refine WO.appNZ (z:=zc 0) (ys:=[.int .u64 0,wZ 1 0,wZ 2 0,wZ 3 0]) (m:=1) rfl rfl rfl (Rds.own (m:=4) Hs.here rfl) rfl Dtt Dtt Dtt Dtt (fun g1 c1 a2 a3=>?_);rw[hB1]
    repeat (first|refine WO.does (zi rfl rfl hadd2) ?_|refine Tj ?_|intro _|refine Tc ?_|exact Tz)
    exact WX.metI (0+1,g1,c1) (hs:=⟨⟨by show 0+1≤F+m;omega,fun _=>⟨a2,a3⟩⟩,by show F+m - (0+1)<F+m - 0;omega⟩)
   ·obtain⟨r1,r2⟩:=hr Om;have hB2:(dqL q P (i+1)).flatMap zc++[.int .u64 0,wZ 1 0,wZ 2 0,wZ 3 0]=(dqL q P (i+1+1)).flatMap zc:=by have h:=hNs;rw[hw4] at h;exact h
    try dsimp only[agV,rwL]
    repeat (first|refine WO.does (zi rfl rfl hFm) ?_|refine Tj ?_|intro _|refine Tc ?_|exact Tz)
    refine WC.dT rfl Om ?_
    repeat (first|refine WO.does (z7 rfl rfl Om) ?_|refine Tj ?_|intro _|refine Tc ?_|exact Tz)
    repeat (first|refine WO.does (zz (cs:=[.int .u64 0,wZ 1 0,wZ 2 0,wZ 3 0]) rfl rfl Kr) ?_|refine Tj ?_|intro _|(refine WO.makes (zh (cs:=[.int .u64 0,wZ 1 0,wZ 2 0,wZ 3 0]) rfl Dtt rfl) ?_;intro _)|refine Tc ?_|exact Tz)
    refine WO.appKZ (z:=zc 0) (m:=1) (l:=i+1+1) rfl rfl rfl (xs:=(dqL q P (i+1)).flatMap zc) (ys:=[.int .u64 0,wZ 1 0,wZ 2 0,wZ 3 0]) hNl r2 Pk.a (Rds.own (m:=4) Hs.here rfl) rfl rfl rfl Om r1 Om Dtt Dtt (fun g1 c1 a2 a3=>?_);rw[hB2]
    repeat (first|refine WO.does (zi rfl rfl hadd2) ?_|refine Tj ?_|intro _|refine Tc ?_|exact Tz)
    exact WX.metI (i+1+1,g1,c1) (hs:=⟨⟨by show i+1+1≤F+m;omega,fun _=>⟨a2,a3⟩⟩,by show F+m - (i+1+1)<F+m - (i+1);omega⟩)
 ·have hi3:i=F+m:=by omega
  subst hi3;have hFp:0<F+m:=by have:=hsp.2.2.2.2.1;omega
  rw[yT hFp,yr hFp];obtain⟨bK,oK,rfl,_,hsK⟩:=id wK |>.get hk
  have hcK:cut (ks.flatMap ya) (oK+(dqD ks.length d - 1)*8 - oK) 4=zc k.1:=sY hk;have hDl:=hD gl cl
  repeat (first|refine WO.does (zi rfl rfl hFm) ?_|refine Tj ?_|intro _|refine Tc ?_|exact Tz)
  refine WC.dF rfl Om ?_
  repeat (first|refine Tk ?_|intro _|exact Tz)
  refine WC.adrawF [14] 16 (k:=?_)
  iterate 7 refine Dx ?_
  refine DQ.does (fun s _=>zG rfl rfl hsb8) Dp.const ?_;refine DQ.does (fun s _=>zb (o':=oK+(dqD ks.length d - 1)*8) rfl rfl hiD rfl) Dp.const ?_;refine Dx ?_;refine DQ.does (fun _ _=>zn (vs:=zc k.1) (hs:=hsK) (hle:=Nat.le_add_right _ _) (hc:=hcK)) Dp.const ?_;refine DQ.acallX (hc:=hDl) (hR:=fun w1 hm=>⟨wN.mod hm.mod,RdF.ownO (Hs.sg hm) (uF q P (F+m))⟩) (k:=?_)
  repeat (first|refine Da ?_|refine Df ?_)
  refine DQ.anil (k:=?_);intro sx _
  try simp only[List.map_cons,List.map_nil,List.cons_append,List.nil_append]
  generalize sx 11 0=gV;generalize sx 11 1=gY;generalize sx 11 2=gP;generalize sx 15 0=gD;generalize dSg p q g (dqL q P (F+m)) (csN p g a ks) ep (dqD ks.length d) k.1 ks.length=sg;generalize (dPs p q g (dqL q P (F+m)) (csN p g a ks) ep (dqD ks.length d) k.1 ks.length).flatMap pfC=cP2;generalize (dYs p q (dqL q P (F+m)) (csN p g a ks) ks.length).flatMap zc=cY2;generalize (dVs p q g (dqL q P (F+m)) ks.length).flatMap zc=cV2
  repeat (first|refine Tk ?_|intro _|exact Tz)
  exact WX.ret1 rfl (zW rfl Hs.a rfl rfl) [⟨gP,117,cP2⟩,⟨gY,24,cY2⟩,⟨gV,24,cV2⟩] (by repeat (first|exact Lle.nil|refine Lle.c ?_)) ⟨fun j=>match j with|0=>gV|1=>gY|_=>gP,rfl,rfl,trivial⟩
end
end Sx
end
section
open Go Go.RowKit Go.BigFrame
namespace Sx
structure Dd where
 d:Nat
 V:List Nat
 Y:List Nat
 P:List (Nat × Nat)
 c:Nat
 s:Nat
structure Dk where
 v:Nat
 y:Nat
 p:Nat
 rv:Nat
 ry:Nat
 rp:Nat
def ddH (ep:Nat) (x:Dd):List Nat:=yN ep x.d x.V x.Y x.P
def ddL (x:Dd) (b:Dk):List Ent:=[⟨b.v,24,x.V.flatMap zc++mkz b.rv (zc 0)⟩,⟨b.y,24,x.Y.flatMap zc++mkz b.ry (zc 0)⟩,⟨b.p,117,x.P.flatMap pfC++mkz b.rp (vC 0 0)⟩]
theorem qR (ep:Nat) (x:Dd):∀ b∈ddH ep x,b<256:=yX _ _
theorem vh (ep:Nat) (x:Dd):(ddH ep x).length=32:=zI _ _
abbrev dzC:List Value:=[.int .u64 0,.int .u8 0,.slice none 0 0,.slice none 0 0,.slice none 0 0,wZ 0 0,wZ 1 0,wZ 2 0,wZ 3 0,wZ 0 0,wZ 1 0,wZ 2 0,wZ 3 0]
def ddC (ep:Nat) (x:Dd × Dk):List Value:=dlC ep x.1.d (AQ x.2.v x.1.V.length x.1.V.length) (AQ x.2.y x.1.Y.length x.1.Y.length) (AQ x.2.p x.1.P.length x.1.P.length) x.1.c x.1.s
theorem acV (ep:Nat) (x:Dd × Dk):(ddC ep x).length=13:=rfl
theorem Lle.skp {e:Ent} {L:List Ent}:∀ {L' : List Ent},Lle L' L→Lle L' (e::L)
 | [],_=>trivial
 | _::_,⟨cs,L2,h1,h2,h3⟩=>⟨cs,e::L2,.there h1,h2,Lle.skp h3⟩
theorem Lle.left' : ∀ {N:List Ent},Lle N N
 | []=>trivial
 | _::_=>⟨_,_,.here,rfl,Lle.left'⟩
theorem acz (ep:Nat):∀ E:List (Dd × Dk),(E.flatMap (ddC ep)).length=E.length*13
 | []=>rfl
 | a::E=>by rw[List.flatMap_cons,List.length_append,acz ep E,acV,List.length_cons];omega
structure fQ (w:World) (x:Dd) (b:Dk):Prop where
 v:RdF zc (AQ b.v x.V.length x.V.length) x.V w
 y:RdF zc (AQ b.y x.Y.length x.Y.length) x.Y w
 p:RdF pfC (AQ b.p x.P.length x.P.length) x.P w
structure fG (x:Dd):Prop where
 v:x.V≠[]
 y:x.Y≠[]
 p:x.P≠[]
 vl:x.V.length≤100
 yl:x.Y.length≤100
 pl:x.P.length≤100
structure af0 (x:Dd):Prop where
 v:∀ a∈x.V,a<ze
 y:∀ a∈x.Y,a<ze
 p:zZ x.P
 c:x.c<ze
 s:x.s<ze
abbrev ag9 (ep:Nat) (x:Dd) (pV pY pP:Option Addr) (cV cY cP:Nat):Value:=dlV ep x.d (.slice pV x.V.length cV) (.slice pY x.Y.length cY) (.slice pP x.P.length cP) x.c x.s
section
variable {w:World}
theorem fQ.of {x:Dd} {b:Dk} (h:∀ e∈ddL x b,e.ok w):fQ w x b:=by
 have h1:=(h ⟨b.v,24,x.V.flatMap zc++mkz b.rv (zc 0)⟩ (by simp[ddL])).seg 0;have h2:=(h ⟨b.y,24,x.Y.flatMap zc++mkz b.ry (zc 0)⟩ (by simp[ddL])).seg 0;have h3:=(h ⟨b.p,117,x.P.flatMap pfC++mkz b.rp (vC 0 0)⟩ (by simp[ddL])).seg 0;rw[List.drop_zero] at h1 h2 h3;exact⟨RdF.ownO h1 rfl,RdF.ownO h2 rfl,RdF.ownO h3 rfl⟩
end
theorem ul {α:Type} {f:α→List Value} {k:Nat}:∀ {xs:List α} {i:Nat} {x:α} {r:LV},(∀ x∈xs,(f x).length=k)→xs[i]?=some x→cut (xs.flatMap f++r) (i*k) k=f x
 | [],i,x,_,_,h=>by simp at h
 | a::xs,0,x,r,hk,h=>by
  have e:a=x:=by simpa using h
  subst e;rw[Nat.zero_mul,List.flatMap_cons,List.append_assoc];unfold cut;rw[List.drop_zero,← hk a Sm,List.take_left]
 | a::xs,i+1,x,r,hk,h=>by
  have:=ul (r:=r) (fun y hy=>hk y (by simp[hy])) (show xs[i]?=some x by simpa using h);rw[List.flatMap_cons,List.append_assoc,Nat.succ_mul];unfold cut at this ⊢;rw[Nat.add_comm (i*k) k,← List.drop_drop,← hk a Sm,List.drop_left,hk a Sm];exact this
def dqX (p q g a F m:Nat) (ks:LP) (ep d:Nat) (P:LN):Dd :=
  ⟨dqD ks.length d,dVs p q g (dqL q P (F+m)) ks.length,dYs p q (dqL q P (F+m)) (csN p g a ks) ks.length,dPs p q g (dqL q P (F+m)) (csN p g a ks) ep (dqD ks.length d) (ks.getD (dqD ks.length d - 1) (0,0)).1 ks.length,
   (dSg p q g (dqL q P (F+m)) (csN p g a ks) ep (dqD ks.length d) (ks.getD (dqD ks.length d - 1) (0,0)).1 ks.length).1,(dSg p q g (dqL q P (F+m)) (csN p g a ks) ep (dqD ks.length d) (ks.getD (dqD ks.length d - 1) (0,0)).1 ks.length).2⟩
section
variable {p q g a F m:Nat} {ks:LP} {ep d:Nat} {P:LN}
theorem aeP:(dqX p q g a F m ks ep d P).V.length=ks.length:=by simp[dqX,dVs]
theorem aek:(dqX p q g a F m ks ep d P).Y.length=ks.length:=by simp[dqX,dYs]
theorem aef:(dqX p q g a F m ks ep d P).P.length=ks.length:=by simp[dqX,dPs]
theorem fM (hn:0<ks.length) (h7:ks.length≤7):fG (dqX p q g a F m ks ep d P):=by
 have h1:=aeP (p:=p) (q:=q) (g:=g) (a:=a) (F:=F) (m:=m) (ks:=ks) (ep:=ep) (d:=d) (P:=P);have h2:=aek (p:=p) (q:=q) (g:=g) (a:=a) (F:=F) (m:=m) (ks:=ks) (ep:=ep) (d:=d) (P:=P);have h3:=aef (p:=p) (q:=q) (g:=g) (a:=a) (F:=F) (m:=m) (ks:=ks) (ep:=ep) (d:=d) (P:=P);exact⟨fun e=>by rw[e] at h1;simp at h1;omega,fun e=>by rw[e] at h2;simp at h2;omega,fun e=>by rw[e] at h3;simp at h3;omega,by omega,by omega,by omega⟩
theorem ae0 (hp:p<ze) (hq:q<ze) (h0:0<q):af0 (dqX p q g a F m ks ep d P):=⟨afD hp,afI hp,af9 hq h0,(aca hq h0).1,(aca hq h0).2⟩
theorem ahr (hn:0<ks.length):0<(dqX p q g a F m ks ep d P).d∧(dqX p q g a F m ks ep d P).d≤(csN p g a ks).length:=by
 have:d%ks.length<ks.length:=Nat.mod_lt _ hn;rw[yW];show 0<1+d%ks.length∧1+d%ks.length≤ks.length;omega
theorem aft (hc:sc p q g a (F:Int) (m:Int) ks) (hn:0<ks.length):ckE p q g (exN p g a) (F:Int) (m:Int) (csN p g a ks) ep (dqX p q g a F m ks ep d P).d (dqX p q g a F m ks ep d P).V (dqX p q g a F m ks ep d P).Y (dqX p q g a F m ks ep d P).P (dqX p q g a F m ks ep d P).c (dqX p q g a F m ks ep d P).s=none:=by
 have h:=eS (ep:=ep) hc.pri (mX hc d P hn);rw[yW] at h;exact h
end
section
variable (p q g h0 a:Nat) (F m:Nat) (pk:Option Addr) (ck:Nat) (ks:LP) (pt:Option Addr) (c:Nat) (ep d:Nat) (pP:Option Addr) (cP:Nat) (P:LN)
theorem agC {a b c:Ent}:[a,b,c].Perm [c,b,a]:=List.reverse_perm [c,b,a]
theorem Fn.perm {Pg:Program} {f:FuncId} {args:LV} {R:World→Prop} {post post' : Value→List Ent→Prop} (h:Fn Pg f args R post) (hp:∀ v N,post v N→∃ N',N.Perm N'∧post' v N'):Fn Pg f args R post' :=
 fun w hw=>(h w hw).mono fun _ _ ⟨v,N,h1,h2,h3,h4⟩=>by
  obtain⟨N',h5,h6⟩:=hp v N h4;exact⟨v,N',h1,h2,⟨fun e he=>h3.ok e (h5.mem_iff.2 he),fun e he=>h3.new e (h5.mem_iff.2 he),(h5.map Ent.g).nodup_iff.1 h3.nodup⟩,h6⟩
theorem ae3 (hc:sc p q g a (F:Int) (m:Int) ks) (hn:0<ks.length) (hp:p<ze) (hq:q<ze) (hg:g<ze) (hh0:h0<ze) (ha:a<ze) (hks:zZ ks) (hP:∀ x∈P,x<4294967296) (hd:d<256) (hep:ep<18446744073709551616) :
  Fn Tryz.prog 30 [csV p q g h0 a (F:Int) (m:Int) (.slice pk ks.length ck),stV p q g (exN p g a) (F:Int) (m:Int) (.slice pt ks.length c),.int .u64 (ep:Int),dqV d (.slice pP P.length cP)]
   (fun w=>RdF ya (.slice pk ks.length ck) ks w∧RdF ya (.slice pt ks.length c) (csN p g a ks) w∧RdE jX (.slice pP P.length cP) P w)
   (Ex (fun s=>ag9 ep (dqX p q g a F m ks ep d P) (some ⟨s 0,0,none⟩) (some ⟨s 1,0,none⟩) (some ⟨s 2,0,none⟩) ks.length ks.length ks.length) (fun s=>ddL (dqX p q g a F m ks ep d P) ⟨s 0,s 1,s 2,0,0,0⟩) (fun _=>True)):=by
 refine Fn.perm (adr p q g h0 a F m pk ck ks pt c ep d pP cP P hc hn hp hq hg hh0 ha hks hP hd hep) ?_;rintro v N ⟨s,rfl,rfl,_⟩;refine⟨ddL (dqX p q g a F m ks ep d P) ⟨s 0,s 1,s 2,0,0,0⟩,?_,s,?_,rfl,trivial⟩
 ·simp only[ddL,mkz,List.replicate_zero,List.flatten_nil,List.append_nil,dqX];exact agC
 ·unfold ag9;rw[aeP,aek,aef];rfl
end
end Sx
end
section
open Go Go.RowKit Go.BigFrame
namespace Sx
attribute [local irreducible] DQ WC WO WX wd
section
variable {P:Program} {w0:World} {gs:LN} {K:List (Nat × Value)} {L:List Ent}
theorem yE {x y:Operand} {t yt ty e:TypeId} {p:Addr} {n c:Nat} (hu:P.underlying t=some (.slice e)) (hx:ev K x=some (.slice (some p) n c)) (hy:ev K y=some (.slice none 0 0)):Does P w0 gs K L (.binOp .eql t x y yt) ty (.bool false):=by
 intro a w hk _ o ho _;have h1:(eqGuard .eql t x y (.slice (some p) n c) (.slice none 0 0)).run P w=.ok () w:=by unfold eqGuard;rfl
 have h4:∀ d,(Op.equalIn (d+1) t (.slice (some p) n c) (.slice none 0 0)).run P w=.ok false w:=fun d=>by
  simp[Op.equalIn,underlying,hu]
 have h3:(Op.equalIn 10000 t (.slice (some p) n c) (.slice none 0 0)).run P w=.ok false w:=h4 9999;have h2:(binOp .eql t (.slice (some p) n c) (.slice none 0 0)).run P w=.ok (.bool false) w:=by
  simp only[binOp,Op.equal,Op.maxDepth,Sem.run_bind,h3,Result.andThen_ok,Sem.run_pure]
 simp only[execOp,ho,hk.eval hx,hk.eval hy,Sem.run_bind,h1,Result.andThen_ok,h2,Sem.run_pure]
theorem fe {x y:Operand} {t yt ty e:TypeId} {p:Addr} (hu:P.underlying t=some (.pointer e)) (hx:ev K x=some (.pointer (some p))) (hy:ev K y=some (.pointer none)):Does P w0 gs K L (.binOp .neq t x y yt) ty (.bool true):=by
 intro a w hk _ o ho _;have h1:(eqGuard .neq t x y (.pointer (some p)) (.pointer none)).run P w=.ok () w:=by unfold eqGuard;rfl
 have h4:∀ d,(Op.equalIn (d+1) t (.pointer (some p)) (.pointer none)).run P w=.ok false w:=fun d=>by
  simp[Op.equalIn,underlying,hu]
 have h3:(Op.equalIn 10000 t (.pointer (some p)) (.pointer none)).run P w=.ok false w:=h4 9999;have h2:(binOp .neq t (.pointer (some p)) (.pointer none)).run P w=.ok (.bool true) w:=by
  simp only[binOp,Op.equal,Op.maxDepth,Sem.run_bind,h3,Result.andThen_ok,Sem.run_pure];rfl
 simp only[execOp,ho,hk.eval hx,hk.eval hy,Sem.run_bind,h1,Result.andThen_ok,h2,Sem.run_pure]
theorem iG {x y:Operand} {t yt ty e:TypeId} (hu:P.underlying t=some (.pointer e)) (hx:ev K x=some (.pointer none)) (hy:ev K y=some (.pointer none)):Does P w0 gs K L (.binOp .neq t x y yt) ty (.bool false):=by
 intro a w hk _ o ho _;have h1:(eqGuard .neq t x y (.pointer none) (.pointer none)).run P w=.ok () w:=by unfold eqGuard;rfl
 have h4:∀ d,(Op.equalIn (d+1) t (.pointer none) (.pointer none)).run P w=.ok true w:=fun d=>by
  simp[Op.equalIn,underlying,hu]
 have h3:(Op.equalIn 10000 t (.pointer none) (.pointer none)).run P w=.ok true w:=h4 9999;have h2:(binOp .neq t (.pointer none) (.pointer none)).run P w=.ok (.bool false) w:=by
  simp only[binOp,Op.equal,Op.maxDepth,Sem.run_bind,h3,Result.andThen_ok,Sem.run_pure];rfl
 simp only[execOp,ho,hk.eval hx,hk.eval hy,Sem.run_bind,h1,Result.andThen_ok,h2,Sem.run_pure]
theorem vz {t elem size ty len cap:Nat} {p:Option Addr} {k k' : IntKind} {x y z:Operand} [SlT P t elem size] (hx:ev K x=some (.slice p len cap)) (hy:ev K y=some (.int k (len:Int))) (hz:ev K z=some (.int k' (len:Int))) (hc:len≤cap) :
  Does P w0 gs K L (.slice t x none (some y) (some z)) ty (.slice p len len):=by
 intro a w hk _ o ho _;have hu:∀ w,(underlying t).run P w=.ok (.slice elem) w:=fun w=>by simp[underlying,SlT.under (P:=P) (t:=t)]
 have hb:((0:Int)≤(len:Int)∧(len:Int)≤(cap:Int)):=by omega
 have hb2:((0:Int)≤(len:Int)∧(len:Int)≤(len:Int)):=by omega
 simp only[execOp,ho,hk.eval hx,Option.map_none,Option.map_some,hk.eval hy,hk.eval hz,Instr.sliceAt,Sem.run_bind,hu,Result.andThen_ok,Instr.slice,Sem.run_pure,Instr.sliceBounds,Instr.sliceBound,asIntOf,if_pos hb,if_pos hb2,SlT.size (P:=P) (t:=t),Nat.zero_mul,Nat.sub_zero,Int.toNat_natCast];have:p.map (fun a=>a.add 0)=p:=by cases p<;>simp[Addr.add]
 simp[this]
end
abbrev NwR {α:Type} (t:TypeId) (f:α→List Value) (z:LV) (xs:List α):Value→List Ent→Prop :=
 Ex (fun s=>AQ (s 0) xs.length (s 1)) (fun s=>[⟨s 0,t,xs.flatMap f++mkz (s 1 - xs.length) z⟩]) (fun s=>xs.length≤s 1∧s 1<9223372036854775808)
theorem oL {α:Type} {f:α→List Value} (h:∀ x,(f x).all Value.oneCell'=true) (xs:List α):(xs.flatMap f).all Value.oneCell'=true:=by
 induction xs with
 | nil=>rfl
 | cons a r ih=>rw[List.flatMap_cons,List.all_append,ih,h a];rfl
section
variable (pt:Option Addr) (c:Nat)
theorem p8 (xs:List (Nat)) (h0:0<xs.length) (hn:xs.length≤1000):Fn Tryz.prog 121 [.slice pt xs.length c] (RdF zc (.slice pt xs.length c) xs) (NwR 24 zc (zc 0) xs):=by
 have hl:(xs.flatMap zc).length=xs.length*4:=zF (f:=zc) (k:=4) (fun _=>rfl) xs;refine Fn.enter Tryz.func121 rfl rfl rfl ?_;intro w hw;obtain⟨x,hx⟩ : ∃ x,xs[0]?=some x:=⟨_,List.getElem?_eq_getElem h0⟩;obtain⟨b,o,rfl,_,hs⟩:=id hw |>.get hx
 repeat (first|refine WO.does (yE (e:=24) Tryz.underlying46 rfl rfl) ?_|refine Tj ?_|intro _|(refine WO.makes (zh (cs:=[]) rfl Dtt rfl) ?_;intro _)|refine Tc ?_|exact Tz)
 refine WO.appKZ (z:=zc 0) (m:=xs.length) (l:=xs.length) rfl rfl rfl (xs:=[]) (ys:=xs.flatMap zc) rfl (Nat.le_refl _) Pk.a (RdF.rds hw rfl) hl (oL (fun _=>rfl) xs) (Nat.zero_add _) Om Dtt Om Dtt Dtt (fun g1 c1 a2 a3=>?_)
 repeat (first|refine Tk ?_|intro _|exact Tz)
 exact WX.ret1 rfl (zK rfl) [⟨g1,24,xs.flatMap zc++mkz (c1 - xs.length) (zc 0)⟩] (by repeat (first|exact Lle.nil|refine Lle.c ?_)) ⟨fun j=>match j with|0=>g1|_=>c1,rfl,rfl,a3,a2⟩
theorem aR (xs:LP) (h0:0<xs.length) (hn:xs.length≤1000):Fn Tryz.prog 123 [.slice pt xs.length c] (RdF pfC (.slice pt xs.length c) xs) (NwR 117 pfC (vC 0 0) xs):=by
 have hl:(xs.flatMap pfC).length=xs.length*8:=zF (f:=pfC) (k:=8) (fun _=>rfl) xs;refine Fn.enter Tryz.func123 rfl rfl rfl ?_;intro w hw;obtain⟨x,hx⟩ : ∃ x,xs[0]?=some x:=⟨_,List.getElem?_eq_getElem h0⟩;obtain⟨b,o,rfl,_,hs⟩:=id hw |>.get hx
 repeat (first|refine WO.does (yE (e:=117) Tryz.underlying47 rfl rfl) ?_|refine Tj ?_|intro _|(refine WO.makes (zh (cs:=[]) rfl Dtt rfl) ?_;intro _)|refine Tc ?_|exact Tz)
 refine WO.appKZ (z:=vC 0 0) (m:=xs.length) (l:=xs.length) rfl rfl rfl (xs:=[]) (ys:=xs.flatMap pfC) rfl (Nat.le_refl _) Pk.a (RdF.rds hw rfl) hl (oL (fun _=>rfl) xs) (Nat.zero_add _) Om Dtt Om Dtt Dtt (fun g1 c1 a2 a3=>?_)
 repeat (first|refine Tk ?_|intro _|exact Tz)
 exact WX.ret1 rfl (zK rfl) [⟨g1,117,xs.flatMap pfC++mkz (c1 - xs.length) (vC 0 0)⟩] (by repeat (first|exact Lle.nil|refine Lle.c ?_)) ⟨fun j=>match j with|0=>g1|_=>c1,rfl,rfl,a3,a2⟩
theorem abl (xs:LP) (h0:0<xs.length) (hn:xs.length≤1000):Fn Tryz.prog 47 [.slice pt xs.length c] (RdF ya (.slice pt xs.length c) xs) (NwR 105 ya (vC 0 0) xs):=by
 have hl:(xs.flatMap ya).length=xs.length*8:=zF (f:=ya) (k:=8) (fun _=>rfl) xs;refine Fn.enter Tryz.func47 rfl rfl rfl ?_;intro w hw;obtain⟨x,hx⟩ : ∃ x,xs[0]?=some x:=⟨_,List.getElem?_eq_getElem h0⟩;obtain⟨b,o,rfl,_,hs⟩:=id hw |>.get hx
 repeat (first|refine WO.does (yE (e:=105) Tryz.underlying34 rfl rfl) ?_|refine Tj ?_|intro _|(refine WO.makes (zh (cs:=[]) rfl Dtt rfl) ?_;intro _)|refine Tc ?_|exact Tz)
 refine WO.appKZ (z:=vC 0 0) (m:=xs.length) (l:=xs.length) rfl rfl rfl (xs:=[]) (ys:=xs.flatMap ya) rfl (Nat.le_refl _) Pk.a (RdF.rds hw rfl) hl (oL (fun _=>rfl) xs) (Nat.zero_add _) Om Dtt Om Dtt Dtt (fun g1 c1 a2 a3=>?_)
 repeat (first|refine Tk ?_|intro _|exact Tz)
 exact WX.ret1 rfl (zK rfl) [⟨g1,105,xs.flatMap ya++mkz (c1 - xs.length) (vC 0 0)⟩] (by repeat (first|exact Lle.nil|refine Lle.c ?_)) ⟨fun j=>match j with|0=>g1|_=>c1,rfl,rfl,a3,a2⟩
theorem kx (p:Option Addr) (n:Nat) (hc:n≤c):Fn Tryz.prog 120 [.slice p n c] Tr (Is (.slice p n n)):=by
 refine Fn.enter Tryz.func120 rfl rfl rfl ?_;intro w hw
 repeat (first|refine WO.does (vz rfl rfl rfl hc) ?_|refine Tj ?_|intro _|refine Tc ?_|exact Tz)
 done
theorem aez (p:Option Addr) (n:Nat) (hc:n≤c):Fn Tryz.prog 122 [.slice p n c] Tr (Is (.slice p n n)):=by
 refine Fn.enter Tryz.func122 rfl rfl rfl ?_;intro w hw
 repeat (first|refine WO.does (vz rfl rfl rfl hc) ?_|refine Tj ?_|intro _|refine Tc ?_|exact Tz)
 done
theorem kP (p:Option Addr) (n:Nat) (hc:n≤c):Fn Tryz.prog 46 [.slice p n c] Tr (Is (.slice p n n)):=by
 refine Fn.enter Tryz.func46 rfl rfl rfl ?_;intro w hw
 repeat (first|refine WO.does (vz rfl rfl rfl hc) ?_|refine Tj ?_|intro _|refine Tc ?_|exact Tz)
 done
theorem acW (p:Option Addr) (n:Nat) (hc:n≤c):Fn Tryz.prog 114 [.slice p n c] Tr (Is (.slice p n n)):=by
 refine Fn.enter Tryz.func114 rfl rfl rfl ?_;intro w hw
 repeat (first|refine WO.does (vz rfl rfl rfl hc) ?_|refine Tj ?_|intro _|refine Tc ?_|exact Tz)
 done
end
end Sx
end
section
open Go Go.RowKit Go.BigFrame
namespace Sx
def vtS (p q g x:Nat) (H:LN):Nat × Nat:=(sgC p q g x (yw q x H) H,(yw q x H+x*sgC p q g x (yw q x H) H%q)%q)
section
variable {p q g a:Nat} {F m:Nat} {ks:LP}
theorem dL (hc:sc p q g a (F:Int) (m:Int) ks) {i:Nat} {k:Nat × Nat} (hk:ks[i]?=some k) (H:LN) :
  sgB p q g k.1 (yw q k.1 H)=true∧rX p q g (exN p g k.1) (vtS p q g k.1 H).1 (vtS p q g k.1 H).2 H=true∧(vtS p q g k.1 H).1<q∧(vtS p q g k.1 H).2<q:=by
 have hS:=hc.set;have hsp:=zS hS;obtain⟨kg,kN,_⟩:=tT hS;have hgI:=(li kg).1;have hx:=(hc.scr k (List.mem_of_getElem? hk)).1;have hi:i<ks.length:=by
  rcases Nat.lt_or_ge i ks.length with h|h
  ·exact h
  ·rw[List.getElem?_eq_none h] at hk;cases hk
 have hq1:1<q:=by omega
 have hki:=(kN i (by rw[yW];exact hi)).1;rw[List.getD_eq_getElem?_getD,oW hk] at hki;have hk2:kB p q (exN p g k.1)=true:=hki;obtain⟨k1,k2⟩:=li hk2;have hd:=sZ (x:=k.1) (H:=H) hq1;have he:g ^ k.1%p=exN p g k.1:=(pL hgI _).symm;have hP:=c8 (H:=H) hgI k1 k2 hq1 hx he hd;have hx0:k.1≠0:=by
  intro e;obtain⟨⟨hp1,_,_⟩,_⟩:=uH hgI;refine k2 ?_;rw[← he,e,Nat.pow_zero,Nat.mod_eq_of_lt hp1]
 have hB:sgB p q g k.1 (yw q k.1 H)=true:=by
  unfold sgB;rw[vj hgI,vM hq1 hx,vM hq1 hd.1];simp[hx0,hd.2]
 refine⟨hB,?_,vX Om _ _,Nat.mod_lt _ Om⟩;unfold sgN at hP;rw[hB,uE,uE] at hP;exact hP
end
end Sx
end
end Go.Proofs.YtiaibpcaloigkaaGreatDoor
