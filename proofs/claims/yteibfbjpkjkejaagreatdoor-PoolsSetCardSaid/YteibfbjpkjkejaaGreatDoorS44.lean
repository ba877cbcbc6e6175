/- Part 44 of the proof. -/
import Derived.Test.YteibfbjpkjkejaaGreatDoorS42
import Derived.Test.YteibfbjpkjkejaaGreatDoorS43
set_option linter.unusedSimpArgs false
set_option linter.unusedVariables false
set_option maxHeartbeats 8000000
namespace Go.Proofs.YteibfbjpkjkejaaGreatDoor
section
open Go Go.RowKit Go.BigFrame
namespace Sx
attribute [local irreducible] DQ DQS WC WO WX wd
theorem bf {m:Nat} (h:m<18446744073709551616):zc m=[.int .u64 (m:Int),.int .u64 ((wd 1 0:Nat):Int),.int .u64 ((wd 2 0:Nat):Int),.int .u64 ((wd 3 0:Nat):Int)]:=by
 have h0:wd 0 m=m:=aaJ h;have h1:wd 1 m=wd 1 0:=by unfold wd;simp only;rw[Nat.div_eq_of_lt h]
 have h2:wd 2 m=wd 2 0:=by unfold wd;simp only;rw[Nat.div_eq_of_lt (by omega)]
 have h3:wd 3 m=wd 3 0:=by unfold wd;simp only;rw[Nat.div_eq_of_lt (by omega)]
 unfold zc;rw[h0,h1,h2,h3]
def rwL (t g:Nat) (B r:List Value):Nat→List Ent
 | 0=>[]
 | _+1=>[⟨g,t,B++r⟩]
theorem ny {P:Program} {w0:World} {gs:List Nat} {K:List (Nat × Value)} {L:List Ent} {x y:Operand} {t yt ty:TypeId} {k:IntKind} {m n:Nat} (hx:ev K x=some (.int k (m:Int))) (hy:ev K y=some (.int k (n:Int))) (hn:0<n):Does P w0 gs K L (.binOp .rem t x y yt) ty (.int k ((m%n:Nat):Int)) :=
 vw hx hy (by omega) rfl
theorem nC (n:Nat) (hn:n<18446744073709551616):Fn Tryz.prog 38 [.int .u64 (n:Int)] Tr (Is (.bool (vi n))):=by
 by_cases t1:n<2
 ·rw[nQ (.inl t1)];refine Fn.enter Tryz.func38 rfl rfl rfl ?_;intro w hw
  repeat (first|refine WO.does (vJ rfl rfl (by omega)) ?_|refine Ta ?_|(refine Tm ?_;intro _)|refine Tc ?_|exact Tz)
  done
 have hsh:((n:Nat):Int).fdiv (2 ^ (min (32:Int).toNat IntKind.u64.bits))=((n / 4294967296:Nat):Int):=by
  show Int.fdiv (n:Int) 4294967296=_;rw[Int.fdiv_eq_ediv_of_nonneg _ (by decide)];omega
 by_cases t2:4294967296≤n
 ·rw[nQ (.inr t2)];have h1:1≤n / 4294967296:=by omega
  generalize n / 4294967296=m at *;refine Fn.enter Tryz.func38 rfl rfl rfl ?_;intro w hw
  repeat (first|refine WO.does (yr rfl rfl (by omega)) ?_|refine WO.does (vB rfl rfl (by decide) hsh) ?_|refine WO.does (tL rfl rfl (by omega)) ?_|refine Ta ?_|(refine Tm ?_;intro _)|refine Tc ?_|exact Tz)
  done
 have h0:n / 4294967296=0:=by omega
 rw[h0] at hsh;refine Fn.enter Tryz.func38 rfl rfl rfl ?_;intro w hw
 repeat (first|refine WO.does (yr rfl rfl (by omega)) ?_|refine WO.does (vB rfl rfl (by decide) hsh) ?_|refine WO.does (yU rfl rfl (by omega)) ?_|refine Ta ?_|(refine Tm ?_;intro _)|refine Tc ?_|exact Tz)
 refine WC.loopI (σ:=Nat) (fun d=>2≤d∧d≤65536∧∀ e,2≤e→e<d→n%e≠0) (fun d=>[(0,.int .u64 (n:Int)),(3,.bool true),(4,.int .u64 (d:Int))]) (fun _=>[]) (fun d=>65537 - d) 2 (fun d hi=>?_) ⟨Nat.le_refl _,by decide,fun e h1 h2=>by omega⟩
 try dsimp only at hi ⊢
 obtain⟨hd2,hd,hno⟩:=hi;have hdd:d*d≤65536*65536:=Nat.mul_le_mul hd hd;have hmul:IntKind.u64.wrap ((d:Int)*(d:Int))=((d*d:Nat):Int):=by rw[Int.natCast_mul];exact u64_in (by rw[← Int.natCast_mul];omega) (by rw[← Int.natCast_mul];omega)
 by_cases hle:d*d≤n
 ·have hne:d≠65536:=by rintro rfl;omega
  have hadd:IntKind.u64.wrap ((d:Int)+1)=((d+1:Nat):Int):=v7 (by omega) (by omega) (by omega)
  by_cases hz:n%d=0
  ·rw[bQ hd2 hle hz]
   repeat (first|refine WO.does (vg rfl rfl hmul) ?_|refine Ta ?_|(refine Tm ?_;intro _)|refine Tc ?_|exact Tz)
   refine WC.dT rfl (by omega) ?_
   repeat (first|refine WO.does (ny rfl rfl (by omega)) ?_|refine WO.does (yf rfl rfl (by omega)) ?_|refine Ta ?_|(refine Tm ?_;intro _)|refine Tc ?_|exact Tz)
   done
  ·repeat (first|refine WO.does (vg rfl rfl hmul) ?_|refine Ta ?_|(refine Tm ?_;intro _)|refine Tc ?_|exact Tz)
   refine WC.dT rfl (by omega) ?_
   repeat (first|refine WO.does (ny rfl rfl (by omega)) ?_|refine WO.does (yn rfl rfl (by omega)) ?_|refine WO.does (zl rfl rfl hadd) ?_|refine Ta ?_|(refine Tm ?_;intro _)|refine Tc ?_|exact Tz)
   exact WX.metI (d+1) (hs:=⟨⟨by show 2≤d+1;omega,by show d+1≤65536;omega,fun e h1 h2=>by
    rcases Nat.lt_or_ge e d with h3|h3
    ·exact hno e h1 h3
    ·rw[show e=d by omega];exact hz⟩,by show 65537 - (d+1)<65537 - d;omega⟩)
 ·rw[dJ (by omega) (by omega) (Nat.lt_of_not_le hle) hno]
  repeat (first|refine WO.does (vg rfl rfl hmul) ?_|refine Ta ?_|(refine Tm ?_;intro _)|refine Tc ?_|exact Tz)
  refine WC.dF rfl (by omega) ?_
  repeat (first|refine Tw ?_|(refine Tm ?_;intro _)|exact Tz)
section
variable (p q g h:Nat) (f sec:Int) (pt:Option Addr) (c:Nat) (N:List (Nat × Nat)) (pz:Option Addr) (cz:Nat) (l:List Nat)
theorem oQ {a q:Nat}:(0≤uU a q)↔¬ a<q:=by
 unfold uU;split
 ·rename_i h;subst h;simp
 ·split
  ·rename_i h;simp[h]
  ·rename_i h;simp[h]
end
section
variable {P:Program} {w0:World} {gs:List Nat} {K:List (Nat × Value)} {L:List Ent}
theorem vI {x y:Operand} {t yt ty:TypeId} {k:IntKind} {m n:Int} {b:Bool} (hx:ev K x=some (.int k m)) (hy:ev K y=some (.int k n)) (hr:decide (m<n)=b):Does P w0 gs K L (.binOp .lss t x y yt) ty (.bool b):=by
 cases b with
 | true=>exact vJ hx hy (of_decide_eq_true hr)
 | false=>exact yr hx hy (of_decide_eq_false hr)
theorem vH {x y:Operand} {t yt ty:TypeId} {k:IntKind} {m n:Int} {b:Bool} (hx:ev K x=some (.int k m)) (hy:ev K y=some (.int k n)) (hr:decide (m > n)=b):Does P w0 gs K L (.binOp .gtr t x y yt) ty (.bool b):=by
 cases b with
 | true=>exact tL hx hy (of_decide_eq_true hr)
 | false=>exact yU hx hy (of_decide_eq_false hr)
theorem ec {x y:Operand} {t yt ty:TypeId} {k:IntKind} {m n:Int} {b:Bool} (hx:ev K x=some (.int k m)) (hy:ev K y=some (.int k n)) (hr:decide (n≤m)=b):Does P w0 gs K L (.binOp .geq t x y yt) ty (.bool b):=by
 cases b with
 | true=>exact tU hx hy (of_decide_eq_true hr)
 | false=>exact yG hx hy (of_decide_eq_false hr)
theorem mF {x y:Operand} {t yt ty:TypeId} {k:IntKind} {m n:Int} {b:Bool} (hx:ev K x=some (.int k m)) (hy:ev K y=some (.int k n)) (hr:decide (m=n)=b):Does P w0 gs K L (.binOp .eql t x y yt) ty (.bool b):=by
 cases b with
 | true=>exact yf hx hy (of_decide_eq_true hr)
 | false=>exact yn hx hy (of_decide_eq_false hr)
end
theorem vU {g c n:Nat} (h:0<n):agV g c n n=.slice (some ⟨g,0,none⟩) n c:=by cases n with|zero=>omega|succ n=>rfl
theorem vA {t g:Nat} {B r:List Value} {n:Nat} (h:0<n):rwL t g B r n=[⟨g,t,B++r⟩]:=by cases n with|zero=>omega|succ n=>rfl
abbrev csC (p q g h a:Nat) (f sec:Int) (ks:Value):List Value:=[.int .u64 ((wd 0 p:Nat):Int),.int .u64 ((wd 1 p:Nat):Int),.int .u64 ((wd 2 p:Nat):Int),.int .u64 ((wd 3 p:Nat):Int),.int .u64 ((wd 0 q:Nat):Int),.int .u64 ((wd 1 q:Nat):Int),.int .u64 ((wd 2 q:Nat):Int),.int .u64 ((wd 3 q:Nat):Int),.int .u64 ((wd 0 g:Nat):Int),.int .u64 ((wd 1 g:Nat):Int),.int .u64 ((wd 2 g:Nat):Int),.int .u64 ((wd 3 g:Nat):Int),.int .u64 ((wd 0 h:Nat):Int),.int .u64 ((wd 1 h:Nat):Int),.int .u64 ((wd 2 h:Nat):Int),.int .u64 ((wd 3 h:Nat):Int),.int .u64 ((wd 0 a:Nat):Int),.int .u64 ((wd 1 a:Nat):Int),.int .u64 ((wd 2 a:Nat):Int),.int .u64 ((wd 3 a:Nat):Int),.int .i64 f,.int .i64 sec,ks]
abbrev csV (p q g h a:Nat) (f sec:Int) (ks:Value):Value:=.agg #[.int .u64 ((wd 0 p:Nat):Int),.int .u64 ((wd 1 p:Nat):Int),.int .u64 ((wd 2 p:Nat):Int),.int .u64 ((wd 3 p:Nat):Int),.int .u64 ((wd 0 q:Nat):Int),.int .u64 ((wd 1 q:Nat):Int),.int .u64 ((wd 2 q:Nat):Int),.int .u64 ((wd 3 q:Nat):Int),.int .u64 ((wd 0 g:Nat):Int),.int .u64 ((wd 1 g:Nat):Int),.int .u64 ((wd 2 g:Nat):Int),.int .u64 ((wd 3 g:Nat):Int),.int .u64 ((wd 0 h:Nat):Int),.int .u64 ((wd 1 h:Nat):Int),.int .u64 ((wd 2 h:Nat):Int),.int .u64 ((wd 3 h:Nat):Int),.int .u64 ((wd 0 a:Nat):Int),.int .u64 ((wd 1 a:Nat):Int),.int .u64 ((wd 2 a:Nat):Int),.int .u64 ((wd 3 a:Nat):Int),.int .i64 f,.int .i64 sec,ks]
section
variable (p q g h a:Nat) (f sec:Int) (kv:Value)
theorem abT (hp:p<zd) (hq:q<zd):Fn Tryz.prog 18 [csV p q g h a f sec kv] Tr (Is (.bool (rD p q))):=by
 have wp0:wd 0 p<18446744073709551616:=yh 0 p;have wq0:wd 0 q<18446744073709551616:=yh 0 q;have hS1:=nC (wd 0 p) wp0;have hS2:=nC (wd 0 q) wq0;have hO1:=aH (wd 0 p) wp0;have hO2:=aH (wd 0 q) wq0;have hwp:wd 0 p<zd:=sr wp0;have hwq:wd 0 q<zd:=sr wq0;obtain⟨b1,h1⟩ : ∃ b,decide (wd 0 p<4294967296)=b:=⟨_,rfl⟩;obtain⟨b2,h2⟩ : ∃ b,decide (1<wd 0 q)=b:=⟨_,rfl⟩;obtain⟨b3,h3⟩ : ∃ b,decide (p=wd 0 p)=b:=⟨_,rfl⟩;obtain⟨b4,h4⟩ : ∃ b,decide (q=wd 0 q)=b:=⟨_,rfl⟩;obtain⟨b7,h7⟩ : ∃ b,decide ((wd 0 p - 1)%wd 0 q=0)=b:=⟨_,rfl⟩;have g1:decide (((wd 0 p:Nat):Int)<4294967296)=b1:=by rw[← h1];exact decide_eq_decide.2 (by omega)
 have g2:decide (((wd 0 q:Nat):Int) > 1)=b2:=by rw[← h2];exact decide_eq_decide.2 (by omega)
 have hsm:vi (wd 0 p)=true→1≤wd 0 p:=fun h=>by
  unfold vi at h;simp only[Bool.and_eq_true,decide_eq_true_eq] at h;omega
 unfold rD;rw[h1,h2,h3,h4,h7];generalize hm1:vi (wd 0 p)=b5 at *;generalize vi (wd 0 q)=b6 at *;cases b1 with
 | false =>
  simp only[Bool.true_and,Bool.false_and,Bool.and_false];refine Fn.enter Tryz.func18 rfl rfl rfl ?_;intro w hw
  repeat (first|refine Tw ?_|(refine Tm ?_;intro _)|exact Tz)
  refine WC.adraw 42 (k:=?_)
  iterate 42 (first|refine DQ.does (fun s _=>vI rfl rfl g1) Dp.const ?_|refine DQ.does (fun s _=>vH rfl rfl g2) Dp.const ?_|refine DQ.does (fun s _=>zx rfl rfl hp hwp h3) Dp.const ?_|refine DQ.does (fun s _=>zx rfl rfl hq hwq h4) Dp.const ?_|refine Da ?_|refine DQ.acall (hc:=hS1) (k:=?_)|refine DQ.acall (hc:=hS2) (k:=?_)|refine DQ.acall (hc:=hO1) (k:=?_)|refine DQ.acall (hc:=hO2) (k:=?_)|refine Dc ?_)
  refine DQ.anil (k:=?_);intro sx _
  repeat (first|refine Tw ?_|(refine Tm ?_;intro _)|exact Tz)
  done
 | true =>
 cases b2 with
 | false =>
  simp only[Bool.true_and,Bool.false_and,Bool.and_false];refine Fn.enter Tryz.func18 rfl rfl rfl ?_;intro w hw
  repeat (first|refine Tw ?_|(refine Tm ?_;intro _)|exact Tz)
  refine WC.adraw 42 (k:=?_)
  iterate 42 (first|refine DQ.does (fun s _=>vI rfl rfl g1) Dp.const ?_|refine DQ.does (fun s _=>vH rfl rfl g2) Dp.const ?_|refine DQ.does (fun s _=>zx rfl rfl hp hwp h3) Dp.const ?_|refine DQ.does (fun s _=>zx rfl rfl hq hwq h4) Dp.const ?_|refine Da ?_|refine DQ.acall (hc:=hS1) (k:=?_)|refine DQ.acall (hc:=hS2) (k:=?_)|refine DQ.acall (hc:=hO1) (k:=?_)|refine DQ.acall (hc:=hO2) (k:=?_)|refine Dc ?_)
  refine DQ.anil (k:=?_);intro sx _
  repeat (first|refine Tw ?_|(refine Tm ?_;intro _)|exact Tz)
  done
 | true =>
 cases b3 with
 | false =>
  simp only[Bool.true_and,Bool.false_and,Bool.and_false];refine Fn.enter Tryz.func18 rfl rfl rfl ?_;intro w hw
  repeat (first|refine Tw ?_|(refine Tm ?_;intro _)|exact Tz)
  refine WC.adraw 42 (k:=?_)
  iterate 42 (first|refine DQ.does (fun s _=>vI rfl rfl g1) Dp.const ?_|refine DQ.does (fun s _=>vH rfl rfl g2) Dp.const ?_|refine DQ.does (fun s _=>zx rfl rfl hp hwp h3) Dp.const ?_|refine DQ.does (fun s _=>zx rfl rfl hq hwq h4) Dp.const ?_|refine Da ?_|refine DQ.acall (hc:=hS1) (k:=?_)|refine DQ.acall (hc:=hS2) (k:=?_)|refine DQ.acall (hc:=hO1) (k:=?_)|refine DQ.acall (hc:=hO2) (k:=?_)|refine Dc ?_)
  refine DQ.anil (k:=?_);intro sx _
  repeat (first|refine Tw ?_|(refine Tm ?_;intro _)|exact Tz)
  done
 | true =>
 cases b4 with
 | false =>
  simp only[Bool.true_and,Bool.false_and,Bool.and_false];refine Fn.enter Tryz.func18 rfl rfl rfl ?_;intro w hw
  repeat (first|refine Tw ?_|(refine Tm ?_;intro _)|exact Tz)
  refine WC.adraw 42 (k:=?_)
  iterate 42 (first|refine DQ.does (fun s _=>vI rfl rfl g1) Dp.const ?_|refine DQ.does (fun s _=>vH rfl rfl g2) Dp.const ?_|refine DQ.does (fun s _=>zx rfl rfl hp hwp h3) Dp.const ?_|refine DQ.does (fun s _=>zx rfl rfl hq hwq h4) Dp.const ?_|refine Da ?_|refine DQ.acall (hc:=hS1) (k:=?_)|refine DQ.acall (hc:=hS2) (k:=?_)|refine DQ.acall (hc:=hO1) (k:=?_)|refine DQ.acall (hc:=hO2) (k:=?_)|refine Dc ?_)
  refine DQ.anil (k:=?_);intro sx _
  repeat (first|refine Tw ?_|(refine Tm ?_;intro _)|exact Tz)
  done
 | true =>
 cases b5 with
 | false =>
  simp only[Bool.true_and,Bool.false_and,Bool.and_false];refine Fn.enter Tryz.func18 rfl rfl rfl ?_;intro w hw
  repeat (first|refine Tw ?_|(refine Tm ?_;intro _)|exact Tz)
  refine WC.adraw 42 (k:=?_)
  iterate 42 (first|refine DQ.does (fun s _=>vI rfl rfl g1) Dp.const ?_|refine DQ.does (fun s _=>vH rfl rfl g2) Dp.const ?_|refine DQ.does (fun s _=>zx rfl rfl hp hwp h3) Dp.const ?_|refine DQ.does (fun s _=>zx rfl rfl hq hwq h4) Dp.const ?_|refine Da ?_|refine DQ.acall (hc:=hS1) (k:=?_)|refine DQ.acall (hc:=hS2) (k:=?_)|refine DQ.acall (hc:=hO1) (k:=?_)|refine DQ.acall (hc:=hO2) (k:=?_)|refine Dc ?_)
  refine DQ.anil (k:=?_);intro sx _
  repeat (first|refine Tw ?_|(refine Tm ?_;intro _)|exact Tz)
  done
 | true =>
 cases b6 with
 | false =>
  simp only[Bool.true_and,Bool.false_and,Bool.and_false];refine Fn.enter Tryz.func18 rfl rfl rfl ?_;intro w hw
  repeat (first|refine Tw ?_|(refine Tm ?_;intro _)|exact Tz)
  refine WC.adraw 42 (k:=?_)
  iterate 42 (first|refine DQ.does (fun s _=>vI rfl rfl g1) Dp.const ?_|refine DQ.does (fun s _=>vH rfl rfl g2) Dp.const ?_|refine DQ.does (fun s _=>zx rfl rfl hp hwp h3) Dp.const ?_|refine DQ.does (fun s _=>zx rfl rfl hq hwq h4) Dp.const ?_|refine Da ?_|refine DQ.acall (hc:=hS1) (k:=?_)|refine DQ.acall (hc:=hS2) (k:=?_)|refine DQ.acall (hc:=hO1) (k:=?_)|refine DQ.acall (hc:=hO2) (k:=?_)|refine Dc ?_)
  refine DQ.anil (k:=?_);intro sx _
  repeat (first|refine Tw ?_|(refine Tm ?_;intro _)|exact Tz)
  done
 | true =>
 simp only[Bool.true_and];have hsub:IntKind.u64.wrap (((wd 0 p:Nat):Int) - 1)=((wd 0 p - 1:Nat):Int):=by have:=hsm rfl;exact v7 (by omega) (by omega) (by omega)
 have hq2:=of_decide_eq_true h2;have hrem:(((wd 0 p - 1:Nat):Int)).tmod ((wd 0 q:Nat):Int)=(((wd 0 p - 1)%wd 0 q:Nat):Int):=rfl;have g7:decide ((((wd 0 p - 1)%wd 0 q:Nat):Int)=0)=b7:=by rw[← h7];exact decide_eq_decide.2 (by omega)
 refine Fn.enter Tryz.func18 rfl rfl rfl ?_;intro w hw
 repeat (first|refine Tw ?_|(refine Tm ?_;intro _)|exact Tz)
 refine WC.adraw 42 (k:=?_)
 iterate 42 (first|refine DQ.does (fun s _=>vI rfl rfl g1) Dp.const ?_|refine DQ.does (fun s _=>vH rfl rfl g2) Dp.const ?_|refine DQ.does (fun s _=>zx rfl rfl hp hwp h3) Dp.const ?_|refine DQ.does (fun s _=>zx rfl rfl hq hwq h4) Dp.const ?_|refine DQ.does (fun s _=>zH rfl rfl hsub) Dp.const ?_|refine DQ.does (fun s _=>vw rfl rfl (by omega) hrem) Dp.const ?_|refine DQ.does (fun s _=>mF rfl rfl g7) Dp.const ?_|refine Da ?_|refine DQ.acall (hc:=hS1) (k:=?_)|refine DQ.acall (hc:=hS2) (k:=?_)|refine DQ.acall (hc:=hO1) (k:=?_)|refine DQ.acall (hc:=hO2) (k:=?_)|refine Dc ?_)
 refine DQ.anil (k:=?_);intro sx _
 repeat (first|refine Tw ?_|(refine Tm ?_;intro _)|exact Tz)
 done
end
def CsP (b:Bool) (p q g hh:Nat) (f sec:Int) (N:List (Nat × Nat)):Value→List Ent→Prop:=fun v M =>
 (b=true→∃ gN cN,v=.tuple #[stV p q g hh f sec (.slice (some ⟨gN,0,none⟩) N.length cN),.bool true]∧M=[⟨gN,78,N.flatMap yw++mkz (cN - N.length) (ui 0 0)⟩]∧N.length≤cN∧cN<9223372036854775808)∧(b=false→∃ cs:List Value,v=.tuple #[.agg cs.toArray,.bool false]∧cs.length=19∧cs.all Value.oneCell'=true)
theorem CsP.no {b:Bool} {p q g hh:Nat} {f sec:Int} {N:List (Nat × Nat)} {cs:List Value} {M:List Ent} (h:b=false) (hl:cs.length=19:=by rfl) (h1:cs.all Value.oneCell'=true:=by rfl):CsP b p q g hh f sec N (.tuple #[.agg cs.toArray,.bool false]) M:=⟨fun e=>(by rw[h] at e;cases e),fun _=>⟨cs,rfl,hl,h1⟩⟩
section
variable (p q g h0 a:Nat) (f sec:Int) (pk:Option Addr) (ck:Nat) (ks:List (Nat × Nat))
theorem aec (hp:p<zd) (hq:q<zd) (hg:g<zd) (hh0:h0<zd) (ha:a<zd) (hks:yz ks)
  (hf1 : -9223372036854775808≤f) (hf2:f≤9223372036854775807) (hs1 : -9223372036854775808≤sec) (hs2:sec≤9223372036854775807) :
  Fn Tryz.prog 6 [csV p q g h0 a f sec (.slice pk ks.length ck)] (fun w=>RdF yw (.slice pk ks.length ck) ks w) (CsP (mH p q g a f sec ks) p q g (exN p g a) f sec (csN p g a ks)):=by
 have hE:=ud p q g h0 g a hg ha hp;have hPr:=abT p q g h0 a f sec (.slice pk ks.length ck) hp hq;have h0b:(0:Nat)<zd:=by decide
 rw[show Is (rE (yB p g) (g ^ a%p))=Is (.tuple #[zj (exN p g a),.int .i64 (okE (yB p g))]) from rfl] at hE;have hhb:exN p g a<zd:=sa hp;have hno:∀ b1,yB p g=false∨a=0∨7<ks.length∨rD p q=false→mH p q g a f sec ks=b1→b1=false:=fun b1 hc e=>by
  subst e;unfold mH
  rcases hc with h|h|h|h
  ·rw[h];simp
  ·rw[decide_eq_false (show ¬ a≠0 by omega)];simp
  ·rw[decide_eq_false (show ¬ ks.length≤7 by omega)];simp
  ·rw[h];simp
 cases e1:yB p g with
 | false =>
  have hc:=hno _ (.inl e1) rfl;rw[e1] at hE;rw[hc];have he:okE false≠0:=by decide
  generalize okE false=er at *;generalize exN p g a=hh at *;refine Fn.enter Tryz.func6 rfl rfl rfl ?_;intro w hw
  repeat (first|refine WO.does (ug rfl rfl he) ?_|refine Ta ?_|(refine Tm ?_;intro _)|refine WO.acall (hc:=hE) (k:=?_)|refine Tc ?_|exact Tz)
  exact WX.ret2 rfl (yx rfl Hs.a rfl rfl) (zt rfl) [] Lle.nil (CsP.no rfl)
 | true =>
 rw[e1] at hE;rw[show okE true=0 from rfl] at hE
 by_cases e2:a=0
 ·have hc:=hno _ (.inr (.inl e2)) rfl;rw[hc];generalize exN p g a=hh at *;refine Fn.enter Tryz.func6 rfl rfl rfl ?_;intro w hw
  repeat (first|refine WO.does (zO rfl rfl rfl) ?_|refine WO.does (zB (cs:=zc 0) rfl rfl rfl) ?_|refine WO.does (zx rfl rfl ha h0b (decide_eq_true e2)) ?_|refine Ta ?_|(refine Tm ?_;intro _)|refine WO.acall (hc:=hE) (k:=?_)|refine Tc ?_|exact Tz)
  exact WX.ret2 rfl (yx rfl Hs.a rfl rfl) (zt rfl) [] Lle.nil (CsP.no rfl)
 by_cases e3:7<ks.length
 ·have hc:=hno _ (.inr (.inr (.inl e3))) rfl;rw[hc];generalize exN p g a=hh at *;refine Fn.enter Tryz.func6 rfl rfl rfl ?_;intro w hw
  repeat (first|refine WO.does (zO rfl rfl rfl) ?_|refine WO.does (zB (cs:=zc 0) rfl rfl rfl) ?_|refine WO.does (zx rfl rfl ha h0b (decide_eq_false e2)) ?_|refine WO.does (tL rfl rfl (by omega)) ?_|refine Ta ?_|(refine Tm ?_;intro _)|refine WO.acall (hc:=hE) (k:=?_)|refine Tc ?_|exact Tz)
  exact WX.ret2 rfl (yx rfl Hs.a rfl rfl) (zt rfl) [] Lle.nil (CsP.no rfl)
 cases e4:rD p q with
 | false =>
  have hc:=hno _ (.inr (.inr (.inr e4))) rfl;rw[hc];rw[e4] at hPr;generalize exN p g a=hh at *;refine Fn.enter Tryz.func6 rfl rfl rfl ?_;intro w hw
  repeat (first|refine WO.does (zO rfl rfl rfl) ?_|refine WO.does (zB (cs:=zc 0) rfl rfl rfl) ?_|refine WO.does (zx rfl rfl ha h0b (decide_eq_false e2)) ?_|refine WO.does (yU rfl rfl (by omega)) ?_|refine Ta ?_|(refine Tm ?_;intro _)|refine WO.acall (hc:=hE) (k:=?_)|refine WO.acall (hc:=hPr) (k:=?_)|refine Tc ?_|exact Tz)
  exact WX.ret2 rfl (yx rfl Hs.a rfl rfl) (zt rfl) [] Lle.nil (CsP.no rfl)
 | true =>
 rw[e4] at hPr;have hcast:mH p q g a f sec ks=((ks.all (mT q) && (decide (ks=[]) || yB p (exN p g a))) && uc p q g (exN p g a) f sec (csN p g a ks)):=by
  unfold mH;rw[e1,e4,decide_eq_true e2,decide_eq_true (show ks.length≤7 by omega)];rfl
 have hS:=fun pt c=>tN p q g (exN p g a) f sec pt c (csN p g a ks) hp hq hg hhb (jp hp) (by rw[uq];omega) hf1 hf2 hs1 hs2;rw[uq] at hS;have hE1:=fun (k:Nat × Nat) (hk:k.1<zd∧k.2<zd)=>ud p q g (exN p g a) g k.1 hg hk.1 hp;have hE2:=fun (k:Nat × Nat) (hk:k.1<zd∧k.2<zd)=>ud p q g (exN p g a) (exN p g a) k.2 hhb hk.2 hp;have hC:=fun (x:Nat) (hx:x<zd)=>kf x q hx hq;have hNl:=uq p g a ks;have hNt:∀ i k,ks[i]?=some k→((csN p g a ks).take i).flatMap yw++yw (csK p g (exN p g a) k)=((csN p g a ks).take (i+1)).flatMap yw:=fun i k hk=>by
  rw[List.take_add_one,dD hk,List.flatMap_append];simp
 have hNtl:∀ i,i≤ks.length→(((csN p g a ks).take i).flatMap yw).length=i*8:=fun i hi=>by rw[zU vX,List.length_take,hNl];omega
 have hNall:(csN p g a ks).take ks.length=csN p g a ks:=by rw[← hNl,List.take_length]
 have hck:∀ k:Nat × Nat,csK p g (exN p g a) k=(exN p g k.1,exN p (exN p g a) k.2):=fun _=>rfl;generalize csN p g a ks=N at *;generalize hhh:exN p g a=hh at *;rw[hcast];clear hcast hno;refine Fn.enter Tryz.func6 rfl rfl rfl ?_;intro w hw
 repeat (first|refine WO.does (zO rfl rfl rfl) ?_|refine WO.does (zB (cs:=zc 0) rfl rfl rfl) ?_|refine WO.does (zx rfl rfl ha h0b (decide_eq_false e2)) ?_|refine WO.does (yU rfl rfl (by omega)) ?_|refine Ta ?_|(refine Tm ?_;intro _)|refine WO.acall (hc:=hE) (k:=?_)|refine WO.acall (hc:=hPr) (k:=?_)|refine Tc ?_|exact Tz)
 rename_i gZ gR gG gH gS
 refine WC.loopI (σ:=Nat × Nat × Nat) (fun s=>s.1≤ks.length∧(∀ k∈ks.take s.1,mT q k=true)∧(0<s.1→yB p hh=true∧s.2.2<9223372036854775808∧s.1≤s.2.2)) (fun s=>[(1,Sx.pt gZ),(2,Sx.pt gR),(4,Sx.pt gG),(7,Sx.pt gS),(8,.int .i64 (s.1:Int))])
  (fun s=>⟨gZ,29,csC p q g h0 a f sec (.slice pk ks.length ck)⟩::⟨gR,37,stC 0 0 0 0 0 0 (.slice none 0 0)⟩::⟨gG,26,zL p q g hh⟩::⟨gS,37,stC p q g hh f sec (agV s.2.1 s.2.2 s.1 s.1)⟩::rwL 78 s.2.1 ((N.take s.1).flatMap yw) (mkz (s.2.2 - s.1) (ui 0 0)) s.1) (fun s=>ks.length - s.1) (0,0,0) (fun s hi=>?_) ⟨Nat.zero_le _,fun k hk=>absurd hk (by simp),fun h=>absurd h (by decide)⟩
 obtain⟨i,gN,cN⟩:=s
 try dsimp only at hi ⊢
 obtain⟨hi,hsc,hr⟩:=hi
 by_cases hlt:i<ks.length
 ·obtain⟨k,hk⟩ : ∃ k,ks[i]?=some k:=⟨_,List.getElem?_eq_getElem hlt⟩;have hkm:=List.mem_of_getElem? hk;have hkb:=hks k hkm;have hadd:IntKind.i64.wrap ((i:Int)+1)=((i+1:Nat):Int):=zr (by omega) (by omega) (by omega);obtain⟨b,o,rfl,_,hs⟩:=id hw |>.get hk
  have hcy:cut (ks.flatMap yw) (o+i*8 - o) 8=yw k:=by rw[Nat.add_sub_cancel_left];exact zX vX hk
  have hbad:mT q k=false→(ks.all (mT q) && (decide (ks=[]) || yB p hh) && uc p q g hh f sec N)=false:=fun h=>by
   rw[show ks.all (mT q)=false from List.all_eq_false.2 ⟨k,hkm,by rw[h];decide⟩];rfl
  by_cases t1:k.1=0
  ·have hb:=hbad (by unfold mT;rw[decide_eq_false (show ¬ k.1≠0 by omega)];rfl)
   repeat (first|refine Tw ?_|(refine Tm ?_;intro _)|exact Tz)
   refine WC.dT rfl (by omega) ?_
   repeat (first|refine WO.does (zb (o':=o+i*8) rfl rfl hlt rfl) ?_|refine WO.does (zn (vs:=yw k) (hs:=hs) (hle:=Nat.le_add_right _ _) (hc:=hcy)) ?_|refine WO.does (zB (cs:=zc 0) rfl rfl rfl) ?_|refine WO.does (zx rfl rfl hkb.1 h0b (decide_eq_true t1)) ?_|refine Ta ?_|(refine Tm ?_;intro _)|refine Tc ?_|exact Tz)
   exact WX.ret2 rfl (yx rfl Hs.a rfl rfl) (zt rfl) [] Lle.nil (CsP.no hb)
  by_cases t2:k.2=0
  ·have hb:=hbad (by unfold mT;rw[decide_eq_false (show ¬ k.2≠0 by omega)];simp)
   repeat (first|refine Tw ?_|(refine Tm ?_;intro _)|exact Tz)
   refine WC.dT rfl (by omega) ?_
   repeat (first|refine WO.does (zb (o':=o+i*8) rfl rfl hlt rfl) ?_|refine WO.does (zn (vs:=yw k) (hs:=hs) (hle:=Nat.le_add_right _ _) (hc:=hcy)) ?_|refine WO.does (zB (cs:=zc 0) rfl rfl rfl) ?_|refine WO.does (zx rfl rfl hkb.1 h0b (decide_eq_false t1)) ?_|refine WO.does (zx rfl rfl hkb.2 h0b (decide_eq_true t2)) ?_|refine Ta ?_|(refine Tm ?_;intro _)|refine Tc ?_|exact Tz)
   exact WX.ret2 rfl (yx rfl Hs.a rfl rfl) (zt rfl) [] Lle.nil (CsP.no hb)
  have hC1:=hC k.1 hkb.1;have hC2:=hC k.2 hkb.2
  by_cases t3:k.1<q
  case neg =>
   have hb:=hbad (by unfold mT;rw[decide_eq_false t3];simp);have t3':=oQ.2 t3
   repeat (first|refine Tw ?_|(refine Tm ?_;intro _)|exact Tz)
   refine WC.dT rfl (by omega) ?_
   repeat (first|refine WO.does (zb (o':=o+i*8) rfl rfl hlt rfl) ?_|refine WO.does (zn (vs:=yw k) (hs:=hs) (hle:=Nat.le_add_right _ _) (hc:=hcy)) ?_|refine WO.does (zB (cs:=zc 0) rfl rfl rfl) ?_|refine WO.does (zx rfl rfl hkb.1 h0b (decide_eq_false t1)) ?_|refine WO.does (zx rfl rfl hkb.2 h0b (decide_eq_false t2)) ?_|refine WO.does (tU rfl rfl t3') ?_|refine Ta ?_|(refine Tm ?_;intro _)|refine WO.acall (hc:=hC1) (k:=?_)|refine Tc ?_|exact Tz)
   exact WX.ret2 rfl (yx rfl Hs.a rfl rfl) (zt rfl) [] Lle.nil (CsP.no hb)
  have t3' : ¬ 0≤uU k.1 q:=fun h=>oQ.1 h t3
  by_cases t4:k.2<q
  case neg =>
   have hb:=hbad (by unfold mT;rw[decide_eq_false t4];simp);have t4':=oQ.2 t4
   repeat (first|refine Tw ?_|(refine Tm ?_;intro _)|exact Tz)
   refine WC.dT rfl (by omega) ?_
   repeat (first|refine WO.does (zb (o':=o+i*8) rfl rfl hlt rfl) ?_|refine WO.does (zn (vs:=yw k) (hs:=hs) (hle:=Nat.le_add_right _ _) (hc:=hcy)) ?_|refine WO.does (zB (cs:=zc 0) rfl rfl rfl) ?_|refine WO.does (zx rfl rfl hkb.1 h0b (decide_eq_false t1)) ?_|refine WO.does (zx rfl rfl hkb.2 h0b (decide_eq_false t2)) ?_|refine WO.does (yG rfl rfl t3') ?_|refine WO.does (tU rfl rfl t4') ?_|refine Ta ?_|(refine Tm ?_;intro _)|refine WO.acall (hc:=hC1) (k:=?_)|refine WO.acall (hc:=hC2) (k:=?_)|refine Tc ?_|exact Tz)
   exact WX.ret2 rfl (yx rfl Hs.a rfl rfl) (zt rfl) [] Lle.nil (CsP.no hb)
  have t4' : ¬ 0≤uU k.2 q:=fun h=>oQ.1 h t4;have hX1:=hE1 k hkb;have hX2:=hE2 k hkb;rw[show Is (rE (yB p g) (g ^ k.1%p))=Is (.tuple #[zj (exN p g k.1),.int .i64 (okE (yB p g))]) from rfl,e1,show okE true=0 from rfl] at hX1;rw[show Is (rE (yB p hh) (hh ^ k.2%p))=Is (.tuple #[zj (exN p hh k.2),.int .i64 (okE (yB p hh))]) from rfl] at hX2;have hgood:mT q k=true:=by unfold mT;rw[decide_eq_true t1,decide_eq_true t2,decide_eq_true t3,decide_eq_true t4];rfl
  have hNi:=hNt i k hk;rw[hck k] at hNi;have hNl2:=hNtl i hi;generalize exN p g k.1=u1 at *;generalize exN p hh k.2=u2 at *;cases t5:yB p hh with
  | false =>
   have hb:(ks.all (mT q) && (decide (ks=[]) || yB p hh) && uc p q g hh f sec N)=false:=by
    rw[t5,decide_eq_false (fun e=>by rw[e] at hkm;cases hkm)];simp
   rw[t5] at hX2 hb;have he:okE false≠0:=by decide
   generalize okE false=er at *
   repeat (first|refine Tw ?_|(refine Tm ?_;intro _)|exact Tz)
   refine WC.dT rfl (by omega) ?_
   repeat (first|refine WO.does (zb (o':=o+i*8) rfl rfl hlt rfl) ?_|refine WO.does (zn (vs:=yw k) (hs:=hs) (hle:=Nat.le_add_right _ _) (hc:=hcy)) ?_|refine WO.does (zB (cs:=zc 0) rfl rfl rfl) ?_|refine WO.does (zx rfl rfl hkb.1 h0b (decide_eq_false t1)) ?_|refine WO.does (zx rfl rfl hkb.2 h0b (decide_eq_false t2)) ?_|refine WO.does (yG rfl rfl t3') ?_|refine WO.does (yG rfl rfl t4') ?_|refine WO.does (zO rfl rfl rfl) ?_|refine WO.does (ug rfl rfl he) ?_|refine Ta ?_|(refine Tm ?_;intro _)|refine WO.acall (hc:=hC1) (k:=?_)|refine WO.acall (hc:=hC2) (k:=?_)|refine WO.acall (hc:=hX1) (k:=?_)|refine WO.acall (hc:=hX2) (k:=?_)|refine Tc ?_|exact Tz)
   exact WX.ret2 rfl (yx rfl Hs.a rfl rfl) (zt rfl) [] Lle.nil (CsP.no hb)
  | true =>
  rw[t5,show okE true=0 from rfl] at hX2;have hsc2:∀ x∈ks.take (i+1),mT q x=true:=fun x hx=>by
   rw[List.take_add_one,hk] at hx
   rcases List.mem_append.1 hx with h|h
   ·exact hsc x h
   ·rw[Option.toList_some,List.mem_singleton] at h;rw[h];exact hgood
  rcases i with _|i
  ·have hN1:yw (u1,u2)=(N.take (0+1)).flatMap yw:=by simpa using hNi
   try dsimp only[agV,rwL]
   repeat (first|refine Tw ?_|(refine Tm ?_;intro _)|exact Tz)
   refine WC.dT rfl (by omega) ?_
   repeat (first|refine WO.does (zb (o':=o+i*8) rfl rfl hlt rfl) ?_|refine WO.does (zn (vs:=yw k) (hs:=hs) (hle:=Nat.le_add_right _ _) (hc:=hcy)) ?_|refine WO.does (zB (cs:=zc 0) rfl rfl rfl) ?_|refine WO.does (zx rfl rfl hkb.1 h0b (decide_eq_false t1)) ?_|refine WO.does (zx rfl rfl hkb.2 h0b (decide_eq_false t2)) ?_|refine WO.does (yG rfl rfl t3') ?_|refine WO.does (yG rfl rfl t4') ?_|refine WO.does (zO rfl rfl rfl) ?_|refine WO.does (vz (cs:=yw (u1,u2)) (h2:=rfl)) ?_|refine Ta ?_|(refine Tm ?_;intro _)|refine WO.acall (hc:=hC1) (k:=?_)|refine WO.acall (hc:=hC2) (k:=?_)|refine WO.acall (hc:=hX1) (k:=?_)|refine WO.acall (hc:=hX2) (k:=?_)|(refine WO.makes (ze (cs:=yw (u1,u2)) rfl (by decide) rfl) ?_;intro _)|refine Tc ?_|exact Tz)
   refine WO.appNZ (z:=ui 0 0) (ys:=yw (u1,u2)) (m:=1) rfl rfl rfl (Rds.own (m:=8) Hs.here rfl) rfl (by decide) (by decide) (by decide) (by decide) (fun g1 c1 a2 a3=>?_);rw[hN1]
   repeat (first|refine WO.does (zl rfl rfl hadd) ?_|refine Ta ?_|(refine Tm ?_;intro _)|refine Tc ?_|exact Tz)
   exact WX.metI (0+1,g1,c1) (hs:=⟨⟨by show 0+1≤ks.length;omega,hsc2,fun _=>⟨rfl,a2,a3⟩⟩,by show ks.length - (0+1)<ks.length - 0;omega⟩)
  ·obtain⟨_,r1,r2⟩:=hr (by omega)
   try dsimp only[agV,rwL]
   repeat (first|refine Tw ?_|(refine Tm ?_;intro _)|exact Tz)
   refine WC.dT rfl (by omega) ?_
   repeat (first|refine WO.does (zb (o':=o+i*8) rfl rfl hlt rfl) ?_|refine WO.does (zn (vs:=yw k) (hs:=hs) (hle:=Nat.le_add_right _ _) (hc:=hcy)) ?_|refine WO.does (zB (cs:=zc 0) rfl rfl rfl) ?_|refine WO.does (zx rfl rfl hkb.1 h0b (decide_eq_false t1)) ?_|refine WO.does (zx rfl rfl hkb.2 h0b (decide_eq_false t2)) ?_|refine WO.does (yG rfl rfl t3') ?_|refine WO.does (yG rfl rfl t4') ?_|refine WO.does (zO rfl rfl rfl) ?_|refine WO.does (vz (cs:=yw (u1,u2)) (h2:=rfl)) ?_|refine Ta ?_|(refine Tm ?_;intro _)|refine WO.acall (hc:=hC1) (k:=?_)|refine WO.acall (hc:=hC2) (k:=?_)|refine WO.acall (hc:=hX1) (k:=?_)|refine WO.acall (hc:=hX2) (k:=?_)|(refine WO.makes (ze (cs:=yw (u1,u2)) rfl (by decide) rfl) ?_;intro _)|refine Tc ?_|exact Tz)
   refine WO.appKZ (z:=ui 0 0) (m:=1) (l:=i+1+1) rfl rfl rfl (xs:=(N.take (i+1)).flatMap yw) (ys:=yw (u1,u2)) hNl2 r2 Pk.a (Rds.own (m:=8) Hs.here rfl) rfl rfl rfl (by omega) r1 (by omega) (by decide) (by decide) (fun g1 c1 a2 a3=>?_);rw[hNi]
   repeat (first|refine WO.does (zl rfl rfl hadd) ?_|refine Ta ?_|(refine Tm ?_;intro _)|refine Tc ?_|exact Tz)
   exact WX.metI (i+1+1,g1,c1) (hs:=⟨⟨by show i+1+1≤ks.length;omega,hsc2,fun _=>⟨rfl,a2,a3⟩⟩,by show ks.length - (i+1+1)<ks.length - (i+1);omega⟩)
 ·have hi3:i=ks.length:=by omega
  subst hi3;rw[List.take_length] at hsc;rw[hNall];have hall:ks.all (mT q)=true:=List.all_eq_true.2 hsc
  rcases Nat.eq_zero_or_pos ks.length with h0|hpos
  ·have hS0:=hS none 0;have hN0:N=[]:=List.eq_nil_of_length_eq_zero (by omega);have hsf:uc p q g hh f sec N=false:=by
    cases hsb:uc p q g hh f sec N with
    | false=>rfl
    | true=>have:=(vK hsb).1;omega
   rw[hsf,h0] at hS0;rw[hsf,Bool.and_false];rw[show agV gN cN ks.length ks.length=.slice none 0 0 by rw[h0];rfl,show ∀ B r,rwL 78 gN B r ks.length=[] from fun B r=>by rw[h0];rfl]
   repeat (first|refine Tw ?_|(refine Tm ?_;intro _)|exact Tz)
   refine WC.dF rfl (by omega) ?_
   repeat (first|refine Tw ?_|(refine Tm ?_;intro _)|exact Tz)
   refine WC.adraw 3 (k:=?_)
   iterate 3 (first|refine DQ.acallR (hc:=hS0) (hR:=fun w1 hm=>by rw[hN0];exact RdF.nilV) (k:=?_)|refine Da ?_|refine Dc ?_)
   refine DQ.anil (k:=?_);intro sx _
   repeat (first|refine Tw ?_|(refine Tm ?_;intro _)|exact Tz)
   exact WX.ret2 rfl (yx rfl Hs.a rfl rfl) (zt rfl) [] Lle.nil (CsP.no rfl)
  ·obtain⟨t5,r1,r2⟩:=hr hpos;rw[vU hpos,vA hpos];have hSp:=hS (some ⟨gN,0,none⟩) cN;rw[hall,t5,Bool.or_true,Bool.true_and,Bool.true_and];have hNl' : N.length=ks.length:=hNl;cases hsb:uc p q g hh f sec N with
   | false =>
    rw[hsb] at hSp
    repeat (first|refine Tw ?_|(refine Tm ?_;intro _)|exact Tz)
    refine WC.dF rfl (by omega) ?_
    repeat (first|refine Tw ?_|(refine Tm ?_;intro _)|exact Tz)
    refine WC.adraw 3 (k:=?_)
    iterate 3 (first|refine DQ.acallR (hc:=hSp) (hR:=fun w1 hm=>RdF.ownO (Hs.sg hm) hNl') (k:=?_)|refine Da ?_|refine Dc ?_)
    refine DQ.anil (k:=?_);intro sx _
    repeat (first|refine Tw ?_|(refine Tm ?_;intro _)|exact Tz)
    exact WX.ret2 rfl (yx rfl Hs.a rfl rfl) (zt rfl) [] Lle.nil (CsP.no rfl)
   | true =>
    rw[hsb] at hSp
    repeat (first|refine Tw ?_|(refine Tm ?_;intro _)|exact Tz)
    refine WC.dF rfl (by omega) ?_
    repeat (first|refine Tw ?_|(refine Tm ?_;intro _)|exact Tz)
    refine WC.adraw 3 (k:=?_)
    iterate 3 (first|refine DQ.acallR (hc:=hSp) (hR:=fun w1 hm=>RdF.ownO (Hs.sg hm) hNl') (k:=?_)|refine Da ?_|refine Dc ?_)
    refine DQ.anil (k:=?_);intro sx _
    repeat (first|refine Tw ?_|(refine Tm ?_;intro _)|exact Tz)
    exact WX.ret2 rfl (yx rfl Hs.a rfl rfl) (zt rfl) [⟨gN,78,N.flatMap yw++mkz (cN - ks.length) (ui 0 0)⟩] (Lle.c Lle.nil) ⟨fun _=>⟨gN,cN,by rw[hNl'];rfl,by rw[hNl'],by omega,r1⟩,fun e=>by cases e⟩
end
section
open Kp
variable {P:Program} {w0:World} {gs:List Nat} {n:Nat} {fl:List Nat} {Q:Exit→Act→World→Prop} {ops:List Oper} {L0:List Ent}
variable {tail rest:List Oper} {i:Nat} {C:zE→Prop} {K:zE→List (Nat × Value)} {N:zE→List (Nat × Ent)}
variable {d:Nat} {op:Op} {ty:TypeId} {pos:String} {after:Array Edge} {gd:Option (Nat × Bool)}
theorem DQ.acallX {f:FuncId} [Cal P f] {xs:Array Operand} {ats:Array TypeId} {vs:List Value} {Rq:World→Prop} {vf:(Nat→Nat)→Value} {Nf:(Nat→Nat)→List Ent} (hc:Fn P f vs Rq (Ex vf Nf (fun _=>True))) (hR:∀ w,Mr w0 gs L0 w→Rq w) (ha:∀ s,evs (K s) xs.toList=some vs:=by (intro s;rfl))
  (k:DQ P w0 gs n fl Q ops L0 tail (i+1) rest (fun s=>C s∧True) (fun s=>(d,vf (s i))::K s) (fun s=>(Nf (s i)).map (fun e=>(i,e))++N s))
  (hfl:fl.contains i=false:=by rfl) (hw:∀ s,wk ops (K s) gd=some true:=by intro _;rfl) (hd:Nat.blt d n=true:=by rfl) :
  DQ P w0 gs n fl Q ops L0 tail i (⟨some d,.call { callee:=.value (.func f),args:=xs,argTypes:=ats },ty,pos,after,gd⟩::rest) C K N :=
 DQ.callsE (fs:=fun _=>[]) (cs:=fun _=>[]) (R:=fun _=>Rq) (vf:=fun _ x=>vf x) (Nf:=fun _ x=>Nf x) (S:=fun _ _=>True) (fun _=>[]) (fun _=>.nil)
  (fun _=>⟨fun _=>0,trivial⟩) (fun _ _=>hc) (fun _=>rfl) ha (fun _=>by simp) (fun _ _ w h=>hR w h) Dp.const Dp.const Dp.const k hfl hw hd
end
def RdE {α:Type} (f:α→List Value) (v:Value) (xs:List α) (w:World):Prop:=∃ pt c,v=.slice pt xs.length c∧(xs=[]∨∃ b o,pt=some ⟨b,o,none⟩∧Seg w b o (xs.flatMap f))
theorem RdE.get {α:Type} {f:α→List Value} {pz:Option Addr} {n c:Nat} {xs:List α} {w:World} (h:RdE f (.slice pz n c) xs w) {i:Nat} {x:α} (hx:xs[i]?=some x):∃ b o,pz=some ⟨b,o,none⟩∧n=xs.length∧Seg w b o (xs.flatMap f):=by
 obtain⟨p,c',e,h⟩:=h;cases e
 rcases h with rfl|⟨b,o,rfl,hs⟩
 ·simp at hx
 ·exact⟨b,o,rfl,rfl,hs⟩
theorem RdE.mod {α:Type} {f:α→List Value} {v:Value} {xs:List α} {w w' : World} (h:RdE f v xs w) (hm:Mod [] w w'):RdE f v xs w':=by
 obtain⟨pt,c,e,h⟩:=h;exact⟨pt,c,e,h.imp id (fun ⟨b,o,e2,hs⟩=>⟨b,o,e2,hs.mod hm (by simp)⟩)⟩
theorem RdF.toE {α:Type} {f:α→List Value} {v:Value} {xs:List α} {w:World} (h:RdF f v xs w):RdE f v xs w:=by
 obtain⟨pt,c,e,h⟩:=h;exact⟨pt,c,e,h.imp (fun h=>h.2) id⟩
abbrev aap (n:Nat):List Value:=[.int .u32 (n:Int)]
abbrev dqC (d:Nat) (ps:Value):List Value:=[.int .u8 (d:Int),ps]
abbrev dqV (d:Nat) (ps:Value):Value:=.agg #[.int .u8 (d:Int),ps]
def dqP (q:Nat) (P:List Nat) (i:Nat):Nat:=if i<P.length then P.getD i 0%q else 0
def dqL (q:Nat) (P:List Nat) (n:Nat):List Nat:=(List.range n).map (dqP q P)
def dqD (n d:Nat):Nat:=1+d%n
theorem oa (q:Nat) (P:List Nat) (n:Nat):(dqL q P n).length=n:=by simp[dqL]
theorem aaj {q:Nat} {P:List Nat} (hq:0<q) (i:Nat):dqP q P i<q:=by
 unfold dqP;split
 ·exact Nat.mod_lt _ hq
 ·exact hq
theorem aag {q:Nat} {P:List Nat} {n:Nat} (hq:0<q):∀ a∈dqL q P n,a<q:=fun a h=>by
 obtain⟨i,_,rfl⟩:=List.mem_map.1 h;exact aaj hq i
theorem abq {q:Nat} {P:List Nat} {n:Nat} (hq:1<q):sc q (dqL q P n)=true:=by
 unfold sc;rw[decide_eq_true hq,Bool.true_and,List.all_eq_true];exact fun a h=>decide_eq_true (aag (by omega) a h)
section
variable {p q g a:Nat} {F m:Nat} {ks:List (Nat × Nat)}
theorem mw (hc:fQ p q g a (F:Int) (m:Int) ks) (d:Nat) (P:List Nat) (hn:0<ks.length):iU p q g (exN p g a) (F:Int) (m:Int) (csN p g a ks) (dqD ks.length d) (dqL q P (F+m)) (ks.getD (dqD ks.length d - 1) (0,0)).1=true:=by
 have hS:=hc.set;have hsp:=vK hS;have hdn:d%ks.length<ks.length:=Nat.mod_lt _ hn;unfold iU;rw[hS,abq (by omega),decide_eq_true (show (((dqL q P (F+m)).length:Nat):Int)=(F:Int)+(m:Int) by rw[oa];omega)];have hnode:o7 (dqD ks.length d) (csN p g a ks)=true:=by
  unfold o7 dqD;rw[uq,decide_eq_true (by omega),decide_eq_true (by omega)];rfl
 rw[hnode];simp only[Bool.true_and];have hi:dqD ks.length d - 1<ks.length:=by unfold dqD;omega
 obtain⟨k,hk⟩ : ∃ k,ks[dqD ks.length d - 1]?=some k:=⟨_,List.getElem?_eq_getElem hi⟩;have hkq:=hc.scr k (List.mem_of_getElem? hk);rw[show ks.getD (dqD ks.length d - 1) (0,0)=k by rw[List.getD_eq_getElem?_getD,hk];rfl];have hsg:sgK (csN p g a ks) (dqD ks.length d)=exN p g k.1:=by
  unfold sgK;rw[List.getD_eq_getElem?_getD,dD hk];rfl
 rw[hsg];obtain⟨kg,_⟩:=mL hS;have hgI:=(eM kg).1;unfold ab4;rw[uu (by omega) hkq.1,vm hgI,eL hgI,decide_eq_true rfl];rfl
end
section
variable (p q g h0 a:Nat) (F m:Nat) (pk:Option Addr) (ck:Nat) (ks:List (Nat × Nat)) (pt:Option Addr) (c:Nat) (ep d:Nat) (pP:Option Addr) (cP:Nat) (P:List Nat)
theorem acq (hc:fQ p q g a (F:Int) (m:Int) ks) (hn:0<ks.length) (hp:p<zd) (hq:q<zd) (hg:g<zd) (hh0:h0<zd) (ha:a<zd) (hks:yz ks) (hP:∀ x∈P,x<4294967296) (hd:d<256) (hep:ep<18446744073709551616) :
  Fn Tryz.prog 9 [csV p q g h0 a (F:Int) (m:Int) (.slice pk ks.length ck),stV p q g (exN p g a) (F:Int) (m:Int) (.slice pt ks.length c),.int .u64 (ep:Int),dqV d (.slice pP P.length cP)]
   (fun w=>RdF yw (.slice pk ks.length ck) ks w∧RdF yw (.slice pt ks.length c) (csN p g a ks) w∧RdE aap (.slice pP P.length cP) P w)
   (Ex (fun s => dlV ep (dqD ks.length d) (.slice (some ⟨s 0, 0, none⟩) ks.length ks.length) (.slice (some ⟨s 1, 0, none⟩) ks.length ks.length) (.slice (some ⟨s 2, 0, none⟩) ks.length ks.length)
       (dSg p q g (dqL q P (F+m)) (csN p g a ks) ep (dqD ks.length d) (ks.getD (dqD ks.length d - 1) (0,0)).1 ks.length).1 (dSg p q g (dqL q P (F+m)) (csN p g a ks) ep (dqD ks.length d) (ks.getD (dqD ks.length d - 1) (0,0)).1 ks.length).2)
    (fun s=>[⟨s 2,96,(dPs p q g (dqL q P (F+m)) (csN p g a ks) ep (dqD ks.length d) (ks.getD (dqD ks.length d - 1) (0,0)).1 ks.length).flatMap pfC⟩,⟨s 1,24,(dYs p q (dqL q P (F+m)) (csN p g a ks) ks.length).flatMap zc⟩,⟨s 0,24,(dVs p q g (dqL q P (F+m)) ks.length).flatMap zc⟩]) (fun _=>True)):=by
 have hS:=hc.set;have hsp:=vK hS;have hq1:1<q:=by omega
 have hdn:d%ks.length<ks.length:=Nat.mod_lt _ hn;have hk7:=hc.len;have hhb:exN p g a<zd:=sa hp;have hdD:dqD ks.length d=1+d%ks.length:=rfl;have hiD:dqD ks.length d - 1<ks.length:=by omega
 obtain⟨k,hk⟩ : ∃ k,ks[dqD ks.length d - 1]?=some k:=⟨_,List.getElem?_eq_getElem hiD⟩;have hkb:=hks k (List.mem_of_getElem? hk);have hB:=mw hc d P hn;rw[show ks.getD (dqD ks.length d - 1) (0,0)=k by rw[List.getD_eq_getElem?_getD,hk];rfl] at hB ⊢;have hll:=oa q P (F+m);have hF5:(F:Int)+(m:Int)≤5:=hsp.2.2.2.2.2.1;have hD:=fun (gz cz:Nat)=>aa0 p q g (exN p g a) (F:Int) (m:Int) pt c (csN p g a ks) ep (dqD ks.length d) k.1 (some ⟨gz,0,none⟩) cz (dqL q P (F+m)) hp hq hg hhb (jp hp) (by rw[uq];omega) (fun x hx=>Nat.lt_trans (aag (by omega) x hx) hq) (by rw[hll];omega) (by omega) (by omega) (by omega) (by omega) (by omega) hkb.1 hep hB;rw[uq,hll] at hD;have hcv8:IntKind.u8.wrap (ks.length:Int)=(ks.length:Int):=u8_in (by omega) (by omega);have hrm8:((d:Int)).tmod (ks.length:Int)=((d%ks.length:Nat):Int):=rfl;have hadd8:IntKind.u8.wrap ((1:Int)+((d%ks.length:Nat):Int))=((dqD ks.length d:Nat):Int):=qs (by omega) (by omega) (by omega);have hsb8:IntKind.u8.wrap (((dqD ks.length d:Nat):Int) - 1)=((dqD ks.length d - 1:Nat):Int):=qs (by omega) (by omega) (by omega);have hFm:IntKind.i64.wrap ((F:Int)+(m:Int))=((F+m:Nat):Int):=zr (by omega) (by omega) (by omega);have hq64:q<18446744073709551616:=by have:=hc.q32;omega
 have hwq:wd 0 q=q:=aaJ hq64;have hLs:∀ i,(dqL q P i).flatMap zc++zc (dqP q P i)=(dqL q P (i+1)).flatMap zc:=fun i=>by unfold dqL;rw[rG,List.flatMap_append];simp
 have hLl:∀ i,((dqL q P i).flatMap zc).length=i*4:=fun i=>by rw[zU ym,oa]
 have hPi:∀ i,dqP q P i<18446744073709551616:=fun i=>Nat.lt_trans (aaj (by omega) i) hq64;have hnw:∀ i,zc (dqP q P i)=[.int .u64 ((dqP q P i:Nat):Int),.int .u64 ((wd 1 0:Nat):Int),.int .u64 ((wd 2 0:Nat):Int),.int .u64 ((wd 3 0:Nat):Int)]:=fun i=>bf (hPi i);clear hS hB;refine Fn.enter Tryz.func9 rfl rfl rfl ?_;intro w hw;obtain⟨wK,wN,wP⟩:=hw
 repeat (first|refine WO.does (zN rfl hcv8) ?_|refine WO.does (vw rfl rfl (by omega) hrm8) ?_|refine WO.does (zl rfl rfl hadd8) ?_|refine Ta ?_|(refine Tm ?_;intro _)|refine Tc ?_|exact Tz)
 rename_i gZ gS gX gR
 refine WC.loopI (σ:=Nat × Nat × Nat) (fun s=>s.1≤F+m∧(0<s.1→s.2.2<9223372036854775808∧s.1≤s.2.2)) (fun s=>[(2,.int .u64 (ep:Int)),(4,Sx.pt gZ),(5,Sx.pt gS),(7,Sx.pt gX),(8,Sx.pt gR),(9,.int .u8 ((dqD ks.length d:Nat):Int)),(10,agV s.2.1 s.2.2 s.1 s.1),(11,.int .i64 (s.1:Int))])
  (fun s=>⟨gZ,29,csC p q g h0 a (F:Int) (m:Int) (.slice pk ks.length ck)⟩::⟨gS,37,stC p q g (exN p g a) (F:Int) (m:Int) (.slice pt ks.length c)⟩::⟨gX,32,dqC d (.slice pP P.length cP)⟩::⟨gR,50,dlC 0 0 (.slice none 0 0) (.slice none 0 0) (.slice none 0 0) 0 0⟩::rwL 24 s.2.1 ((dqL q P s.1).flatMap zc) (mkz (s.2.2 - s.1) (zc 0)) s.1) (fun s=>F+m - s.1) (0,0,0) (fun s hi=>?_) ⟨Nat.zero_le _,fun h=>absurd h (by decide)⟩
 obtain⟨i,gl,cl⟩:=s
 try dsimp only at hi ⊢
 obtain⟨hi,hr⟩:=hi
 by_cases hlt:i<F+m
 ·have hadd2:IntKind.i64.wrap ((i:Int)+1)=((i+1:Nat):Int):=zr (by omega) (by omega) (by omega);have hNs:=hLs i;have hNl:=hLl i;have hw4:=hnw i
  by_cases hiP:i<P.length
  ·obtain⟨x,hx⟩ : ∃ x,P[i]?=some x:=⟨_,List.getElem?_eq_getElem hiP⟩;have hxb:=hP x (List.mem_of_getElem? hx);have hv:dqP q P i=x%q:=by unfold dqP;rw[if_pos hiP,List.getD_eq_getElem?_getD,hx];rfl
   rw[hv] at hw4 hNs;have hcvx:IntKind.u64.wrap (x:Int)=(x:Int):=u64_in (by omega) (by omega);have hrmx:((x:Int)).tmod ((wd 0 q:Nat):Int)=((x%q:Nat):Int):=by rw[hwq];rfl
   have hwq0:((wd 0 q:Nat):Int)≠0:=by rw[hwq];omega
   obtain⟨bP,oP,rfl,_,hsP⟩:=id wP |>.get hx
   obtain⟨io,hio⟩ : ∃ io,oP+i*1=io:=⟨_,rfl⟩;have hiol:oP≤io:=by omega
   have hcP:(P.flatMap aap)[io - oP]?=some (.int .u32 (x:Int)):=by
    rw[← hio,Nat.add_sub_cancel_left,Nat.mul_one];have h1:=zX (f:=aap) (k:=1) (fun _=>rfl) hx;rw[Nat.mul_one] at h1;have h2:=uw (j:=0) (v:=.int .u32 (x:Int)) h1 rfl;rwa [Nat.add_zero] at h2
   generalize x%q=v at *
   rcases i with _|i
   ·have hB1:[.int .u64 ((v:Nat):Int),.int .u64 ((wd 1 0:Nat):Int),.int .u64 ((wd 2 0:Nat):Int),.int .u64 ((wd 3 0:Nat):Int)]=(dqL q P (0+1)).flatMap zc:=by have h:=hNs;rw[hw4] at h;exact h
    try dsimp only[agV,rwL]
    repeat (first|refine WO.does (zl rfl rfl hFm) ?_|refine Ta ?_|(refine Tm ?_;intro _)|refine Tc ?_|exact Tz)
    refine WC.dT rfl (by omega) ?_
    repeat (first|refine WO.does (vJ rfl rfl (by omega)) ?_|refine Ta ?_|(refine Tm ?_;intro _)|refine Tc ?_|exact Tz)
    refine WC.adraw 12 (k:=?_)
    iterate 3 (first|refine Da ?_|refine Dc ?_)
    refine DQ.does (fun s _=>zb (o':=io) rfl rfl hiP hio) Dp.const ?_;refine DQ.does (fun s _=>zi (hs:=hsP) (hle:=hiol) (hc:=hcP)) Dp.const ?_;refine DQ.does (fun s _=>zN rfl hcvx) Dp.const ?_
    iterate 4 (first|refine Da ?_|refine Dc ?_)
    refine DQ.does (fun s _=>vw rfl rfl hwq0 hrmx) Dp.const ?_
    iterate 1 (first|refine Da ?_|refine Dc ?_)
    refine DQ.anil (k:=?_);intro sx _
    repeat (first|refine WO.does (zB (cs:=[.int .u64 ((v:Nat):Int),.int .u64 ((wd 1 0:Nat):Int),.int .u64 ((wd 2 0:Nat):Int),.int .u64 ((wd 3 0:Nat):Int)]) rfl rfl (by kernel_rfl)) ?_|refine Ta ?_|(refine Tm ?_;intro _)|(refine WO.makes (ze (cs:=[.int .u64 ((v:Nat):Int),.int .u64 ((wd 1 0:Nat):Int),.int .u64 ((wd 2 0:Nat):Int),.int .u64 ((wd 3 0:Nat):Int)]) rfl (by decide) rfl) ?_;intro _)|refine Tc ?_|exact Tz)
    refine WO.appNZ (z:=zc 0) (ys:=[.int .u64 ((v:Nat):Int),.int .u64 ((wd 1 0:Nat):Int),.int .u64 ((wd 2 0:Nat):Int),.int .u64 ((wd 3 0:Nat):Int)]) (m:=1) rfl rfl rfl (Rds.own (m:=4) Hs.here rfl) rfl (by decide) (by decide) (by decide) (by decide) (fun g1 c1 a2 a3=>?_);rw[hB1]
    repeat (first|refine WO.does (zl rfl rfl hadd2) ?_|refine Ta ?_|(refine Tm ?_;intro _)|refine Tc ?_|exact Tz)
    exact WX.metI (0+1,g1,c1) (hs:=⟨⟨by show 0+1≤F+m;omega,fun _=>⟨a2,a3⟩⟩,by show F+m - (0+1)<F+m - 0;omega⟩)
   ·obtain⟨r1,r2⟩:=hr (by omega);have hB2:(dqL q P (i+1)).flatMap zc++[.int .u64 ((v:Nat):Int),.int .u64 ((wd 1 0:Nat):Int),.int .u64 ((wd 2 0:Nat):Int),.int .u64 ((wd 3 0:Nat):Int)]=(dqL q P (i+1+1)).flatMap zc:=by have h:=hNs;rw[hw4] at h;exact h
    try dsimp only[agV,rwL]
    repeat (first|refine WO.does (zl rfl rfl hFm) ?_|refine Ta ?_|(refine Tm ?_;intro _)|refine Tc ?_|exact Tz)
    refine WC.dT rfl (by omega) ?_
    repeat (first|refine WO.does (vJ rfl rfl (by omega)) ?_|refine Ta ?_|(refine Tm ?_;intro _)|refine Tc ?_|exact Tz)
    refine WC.adraw 12 (k:=?_)
    iterate 3 (first|refine Da ?_|refine Dc ?_)
    refine DQ.does (fun s _=>zb (o':=io) rfl rfl hiP hio) Dp.const ?_;refine DQ.does (fun s _=>zi (hs:=hsP) (hle:=hiol) (hc:=hcP)) Dp.const ?_;refine DQ.does (fun s _=>zN rfl hcvx) Dp.const ?_
    iterate 4 (first|refine Da ?_|refine Dc ?_)
    refine DQ.does (fun s _=>vw rfl rfl hwq0 hrmx) Dp.const ?_
    iterate 1 (first|refine Da ?_|refine Dc ?_)
    refine DQ.anil (k:=?_);intro sx _
    repeat (first|refine WO.does (zB (cs:=[.int .u64 ((v:Nat):Int),.int .u64 ((wd 1 0:Nat):Int),.int .u64 ((wd 2 0:Nat):Int),.int .u64 ((wd 3 0:Nat):Int)]) rfl rfl (by kernel_rfl)) ?_|refine Ta ?_|(refine Tm ?_;intro _)|(refine WO.makes (ze (cs:=[.int .u64 ((v:Nat):Int),.int .u64 ((wd 1 0:Nat):Int),.int .u64 ((wd 2 0:Nat):Int),.int .u64 ((wd 3 0:Nat):Int)]) rfl (by decide) rfl) ?_;intro _)|refine Tc ?_|exact Tz)
    refine WO.appKZ (z:=zc 0) (m:=1) (l:=i+1+1) rfl rfl rfl (xs:=(dqL q P (i+1)).flatMap zc) (ys:=[.int .u64 ((v:Nat):Int),.int .u64 ((wd 1 0:Nat):Int),.int .u64 ((wd 2 0:Nat):Int),.int .u64 ((wd 3 0:Nat):Int)]) hNl r2 Pk.a (Rds.own (m:=4) Hs.here rfl) rfl rfl rfl (by omega) r1 (by omega) (by decide) (by decide) (fun g1 c1 a2 a3=>?_);rw[hB2]
    repeat (first|refine WO.does (zl rfl rfl hadd2) ?_|refine Ta ?_|(refine Tm ?_;intro _)|refine Tc ?_|exact Tz)
    exact WX.metI (i+1+1,g1,c1) (hs:=⟨⟨by show i+1+1≤F+m;omega,fun _=>⟨a2,a3⟩⟩,by show F+m - (i+1+1)<F+m - (i+1);omega⟩)
  ·have hv:dqP q P i=0:=by unfold dqP;rw[if_neg hiP]
   rw[hv] at hw4 hNs;generalize hv0:(0:Nat)=v at hw4 hNs;subst hv0
   rcases i with _|i
   ·have hB1:[.int .u64 0,.int .u64 ((wd 1 0:Nat):Int),.int .u64 ((wd 2 0:Nat):Int),.int .u64 ((wd 3 0:Nat):Int)]=(dqL q P (0+1)).flatMap zc:=by have h:=hNs;rw[hw4] at h;exact h
    try dsimp only[agV,rwL]
    repeat (first|refine WO.does (zl rfl rfl hFm) ?_|refine Ta ?_|(refine Tm ?_;intro _)|refine Tc ?_|exact Tz)
    refine WC.dT rfl (by omega) ?_
    repeat (first|refine WO.does (yr rfl rfl (by omega)) ?_|refine Ta ?_|(refine Tm ?_;intro _)|refine Tc ?_|exact Tz)
    repeat (first|refine WO.does (zB (cs:=[.int .u64 0,.int .u64 ((wd 1 0:Nat):Int),.int .u64 ((wd 2 0:Nat):Int),.int .u64 ((wd 3 0:Nat):Int)]) rfl rfl (by kernel_rfl)) ?_|refine Ta ?_|(refine Tm ?_;intro _)|(refine WO.makes (ze (cs:=[.int .u64 0,.int .u64 ((wd 1 0:Nat):Int),.int .u64 ((wd 2 0:Nat):Int),.int .u64 ((wd 3 0:Nat):Int)]) rfl (by decide) rfl) ?_;intro _)|refine Tc ?_|exact Tz)
    refine WO.appNZ (z:=zc 0) (ys:=[.int .u64 0,.int .u64 ((wd 1 0:Nat):Int),.int .u64 ((wd 2 0:Nat):Int),.int .u64 ((wd 3 0:Nat):Int)]) (m:=1) rfl rfl rfl (Rds.own (m:=4) Hs.here rfl) rfl (by decide) (by decide) (by decide) (by decide) (fun g1 c1 a2 a3=>?_);rw[hB1]
    repeat (first|refine WO.does (zl rfl rfl hadd2) ?_|refine Ta ?_|(refine Tm ?_;intro _)|refine Tc ?_|exact Tz)
    exact WX.metI (0+1,g1,c1) (hs:=⟨⟨by show 0+1≤F+m;omega,fun _=>⟨a2,a3⟩⟩,by show F+m - (0+1)<F+m - 0;omega⟩)
   ·obtain⟨r1,r2⟩:=hr (by omega);have hB2:(dqL q P (i+1)).flatMap zc++[.int .u64 0,.int .u64 ((wd 1 0:Nat):Int),.int .u64 ((wd 2 0:Nat):Int),.int .u64 ((wd 3 0:Nat):Int)]=(dqL q P (i+1+1)).flatMap zc:=by have h:=hNs;rw[hw4] at h;exact h
    try dsimp only[agV,rwL]
    repeat (first|refine WO.does (zl rfl rfl hFm) ?_|refine Ta ?_|(refine Tm ?_;intro _)|refine Tc ?_|exact Tz)
    refine WC.dT rfl (by omega) ?_
    repeat (first|refine WO.does (yr rfl rfl (by omega)) ?_|refine Ta ?_|(refine Tm ?_;intro _)|refine Tc ?_|exact Tz)
    repeat (first|refine WO.does (zB (cs:=[.int .u64 0,.int .u64 ((wd 1 0:Nat):Int),.int .u64 ((wd 2 0:Nat):Int),.int .u64 ((wd 3 0:Nat):Int)]) rfl rfl (by kernel_rfl)) ?_|refine Ta ?_|(refine Tm ?_;intro _)|(refine WO.makes (ze (cs:=[.int .u64 0,.int .u64 ((wd 1 0:Nat):Int),.int .u64 ((wd 2 0:Nat):Int),.int .u64 ((wd 3 0:Nat):Int)]) rfl (by decide) rfl) ?_;intro _)|refine Tc ?_|exact Tz)
    refine WO.appKZ (z:=zc 0) (m:=1) (l:=i+1+1) rfl rfl rfl (xs:=(dqL q P (i+1)).flatMap zc) (ys:=[.int .u64 0,.int .u64 ((wd 1 0:Nat):Int),.int .u64 ((wd 2 0:Nat):Int),.int .u64 ((wd 3 0:Nat):Int)]) hNl r2 Pk.a (Rds.own (m:=4) Hs.here rfl) rfl rfl rfl (by omega) r1 (by omega) (by decide) (by decide) (fun g1 c1 a2 a3=>?_);rw[hB2]
    repeat (first|refine WO.does (zl rfl rfl hadd2) ?_|refine Ta ?_|(refine Tm ?_;intro _)|refine Tc ?_|exact Tz)
    exact WX.metI (i+1+1,g1,c1) (hs:=⟨⟨by show i+1+1≤F+m;omega,fun _=>⟨a2,a3⟩⟩,by show F+m - (i+1+1)<F+m - (i+1);omega⟩)
 ·have hi3:i=F+m:=by omega
  subst hi3;have hFp:0<F+m:=by have:=hsp.2.2.2.2.1;omega
  rw[vU hFp,vA hFp];obtain⟨bK,oK,rfl,_,hsK⟩:=id wK |>.get hk
  have hcK:cut (ks.flatMap yw) (oK+(dqD ks.length d - 1)*8 - oK) 4=zc k.1:=km hk;have hDl:=hD gl cl
  repeat (first|refine WO.does (zl rfl rfl hFm) ?_|refine Ta ?_|(refine Tm ?_;intro _)|refine Tc ?_|exact Tz)
  refine WC.dF rfl (by omega) ?_
  repeat (first|refine Tw ?_|(refine Tm ?_;intro _)|exact Tz)
  refine WC.adrawF [14] 16 (k:=?_)
  iterate 7 (first|refine Da ?_|refine Dc ?_)
  refine DQ.does (fun s _=>zH rfl rfl hsb8) Dp.const ?_;refine DQ.does (fun s _=>zb (o':=oK+(dqD ks.length d - 1)*8) rfl rfl hiD rfl) Dp.const ?_
  iterate 1 (first|refine Da ?_|refine Dc ?_)
  refine DQ.does (fun _ _=>zn (vs:=zc k.1) (hs:=hsK) (hle:=Nat.le_add_right _ _) (hc:=hcK)) Dp.const ?_;refine DQ.acallX (hc:=hDl) (hR:=fun w1 hm=>⟨wN.mod hm.mod,RdF.ownO (Hs.sg hm) (oa q P (F+m))⟩) (k:=?_)
  repeat (first|refine Da ?_|refine Df ?_)
  refine DQ.anil (k:=?_);intro sx _
  try simp only[List.map_cons,List.map_nil,List.cons_append,List.nil_append]
  generalize sx 11 0=gV;generalize sx 11 1=gY;generalize sx 11 2=gP;generalize sx 15 0=gD;generalize dSg p q g (dqL q P (F+m)) (csN p g a ks) ep (dqD ks.length d) k.1 ks.length=sg;generalize (dPs p q g (dqL q P (F+m)) (csN p g a ks) ep (dqD ks.length d) k.1 ks.length).flatMap pfC=cP2;generalize (dYs p q (dqL q P (F+m)) (csN p g a ks) ks.length).flatMap zc=cY2;generalize (dVs p q g (dqL q P (F+m)) ks.length).flatMap zc=cV2
  repeat (first|refine Tw ?_|(refine Tm ?_;intro _)|exact Tz)
  exact WX.ret1 rfl (yx rfl Hs.a rfl rfl) [⟨gP,96,cP2⟩,⟨gY,24,cY2⟩,⟨gV,24,cV2⟩] (by repeat (first|exact Lle.nil|refine Lle.c ?_)) ⟨fun j=>match j with|0=>gV|1=>gY|_=>gP,rfl,rfl,trivial⟩
end
section
variable {P:Program} {w0:World} {gs:List Nat} {K:List (Nat × Value)} {L:List Ent}
theorem tk {x y:Operand} {t yt ty e:TypeId} {p:Addr} {n c:Nat} (hu:P.underlying t=some (.slice e)) (hx:ev K x=some (.slice (some p) n c)) (hy:ev K y=some (.slice none 0 0)):Does P w0 gs K L (.binOp .eql t x y yt) ty (.bool false):=by
 intro a w hk _ o ho _;have h1:(eqGuard .eql t x y (.slice (some p) n c) (.slice none 0 0)).run P w=.ok () w:=by unfold eqGuard;rfl
 have h4:∀ d,(Op.equalIn (d+1) t (.slice (some p) n c) (.slice none 0 0)).run P w=.ok false w:=fun d=>by
  simp[Op.equalIn,underlying,hu]
 have h3:(Op.equalIn 10000 t (.slice (some p) n c) (.slice none 0 0)).run P w=.ok false w:=h4 9999;have h2:(binOp .eql t (.slice (some p) n c) (.slice none 0 0)).run P w=.ok (.bool false) w:=by
  simp only[binOp,Op.equal,Op.maxDepth,Sem.run_bind,h3,Result.andThen_ok,Sem.run_pure]
 simp only[execOp,ho,hk.eval hx,hk.eval hy,Sem.run_bind,h1,Result.andThen_ok,h2,Sem.run_pure]
theorem mU {x y:Operand} {t yt ty kt e:TypeId} {g:Nat} (hu:P.underlying t=some (.map kt e)) (hx:ev K x=some (.map (some g))) (hy:ev K y=some (.map none)):Does P w0 gs K L (.binOp .neq t x y yt) ty (.bool true):=by
 intro a w hk _ o ho _;have h1:(eqGuard .neq t x y (.map (some g)) (.map none)).run P w=.ok () w:=by unfold eqGuard;rfl
 have h4:∀ d,(Op.equalIn (d+1) t (.map (some g)) (.map none)).run P w=.ok false w:=fun d=>by
  simp[Op.equalIn,underlying,hu]
 have h3:(Op.equalIn 10000 t (.map (some g)) (.map none)).run P w=.ok false w:=h4 9999;have h2:(binOp .neq t (.map (some g)) (.map none)).run P w=.ok (.bool true) w:=by
  simp only[binOp,Op.equal,Op.maxDepth,Sem.run_bind,h3,Result.andThen_ok,Sem.run_pure];rfl
 simp only[execOp,ho,hk.eval hx,hk.eval hy,Sem.run_bind,h1,Result.andThen_ok,h2,Sem.run_pure]
theorem jQ {x y:Operand} {t yt ty e:TypeId} {p:Addr} (hu:P.underlying t=some (.pointer e)) (hx:ev K x=some (.pointer (some p))) (hy:ev K y=some (.pointer none)):Does P w0 gs K L (.binOp .neq t x y yt) ty (.bool true):=by
 intro a w hk _ o ho _;have h1:(eqGuard .neq t x y (.pointer (some p)) (.pointer none)).run P w=.ok () w:=by unfold eqGuard;rfl
 have h4:∀ d,(Op.equalIn (d+1) t (.pointer (some p)) (.pointer none)).run P w=.ok false w:=fun d=>by
  simp[Op.equalIn,underlying,hu]
 have h3:(Op.equalIn 10000 t (.pointer (some p)) (.pointer none)).run P w=.ok false w:=h4 9999;have h2:(binOp .neq t (.pointer (some p)) (.pointer none)).run P w=.ok (.bool true) w:=by
  simp only[binOp,Op.equal,Op.maxDepth,Sem.run_bind,h3,Result.andThen_ok,Sem.run_pure];rfl
 simp only[execOp,ho,hk.eval hx,hk.eval hy,Sem.run_bind,h1,Result.andThen_ok,h2,Sem.run_pure]
theorem iK {x y:Operand} {t yt ty e:TypeId} (hu:P.underlying t=some (.pointer e)) (hx:ev K x=some (.pointer none)) (hy:ev K y=some (.pointer none)):Does P w0 gs K L (.binOp .neq t x y yt) ty (.bool false):=by
 intro a w hk _ o ho _;have h1:(eqGuard .neq t x y (.pointer none) (.pointer none)).run P w=.ok () w:=by unfold eqGuard;rfl
 have h4:∀ d,(Op.equalIn (d+1) t (.pointer none) (.pointer none)).run P w=.ok true w:=fun d=>by
  simp[Op.equalIn,underlying,hu]
 have h3:(Op.equalIn 10000 t (.pointer none) (.pointer none)).run P w=.ok true w:=h4 9999;have h2:(binOp .neq t (.pointer none) (.pointer none)).run P w=.ok (.bool false) w:=by
  simp only[binOp,Op.equal,Op.maxDepth,Sem.run_bind,h3,Result.andThen_ok,Sem.run_pure];rfl
 simp only[execOp,ho,hk.eval hx,hk.eval hy,Sem.run_bind,h1,Result.andThen_ok,h2,Sem.run_pure]
theorem qf {t elem size ty len cap:Nat} {p:Option Addr} {k k' : IntKind} {x y z:Operand} [SlT P t elem size] (hx:ev K x=some (.slice p len cap)) (hy:ev K y=some (.int k (len:Int))) (hz:ev K z=some (.int k' (len:Int))) (hc:len≤cap) :
  Does P w0 gs K L (.slice t x none (some y) (some z)) ty (.slice p len len):=by
 intro a w hk _ o ho _;have hu:∀ w,(underlying t).run P w=.ok (.slice elem) w:=fun w=>by simp[underlying,SlT.under (P:=P) (t:=t)]
 have hb:((0:Int)≤(len:Int)∧(len:Int)≤(cap:Int)):=by omega
 have hb2:((0:Int)≤(len:Int)∧(len:Int)≤(len:Int)):=by omega
 simp only[execOp,ho,hk.eval hx,Option.map_none,Option.map_some,hk.eval hy,hk.eval hz,Instr.sliceAt,Sem.run_bind,hu,Result.andThen_ok,Instr.slice,Sem.run_pure,Instr.sliceBounds,Instr.sliceBound,asIntOf,if_pos hb,if_pos hb2,SlT.size (P:=P) (t:=t),Nat.zero_mul,Nat.sub_zero,Int.toNat_natCast];have:p.map (fun a=>a.add 0)=p:=by cases p<;>simp[Addr.add]
 simp[this]
end
abbrev NwR {α:Type} (t:TypeId) (f:α→List Value) (z:List Value) (xs:List α):Value→List Ent→Prop :=
 Ex (fun s=>.slice (some ⟨s 0,0,none⟩) xs.length (s 1)) (fun s=>[⟨s 0,t,xs.flatMap f++mkz (s 1 - xs.length) z⟩]) (fun s=>xs.length≤s 1∧s 1<9223372036854775808)
theorem p8 {α:Type} {f:α→List Value} (h:∀ x,(f x).all Value.oneCell'=true) (xs:List α):(xs.flatMap f).all Value.oneCell'=true:=by
 induction xs with
 | nil=>rfl
 | cons a r ih=>rw[List.flatMap_cons,List.all_append,ih,h a];rfl
section
variable (pt:Option Addr) (c:Nat)
theorem kH (xs:List (Nat)) (h0:0<xs.length) (hn:xs.length≤1000):Fn Tryz.prog 67 [.slice pt xs.length c] (RdF zc (.slice pt xs.length c) xs) (NwR 24 zc (zc 0) xs):=by
 have hl:(xs.flatMap zc).length=xs.length*4:=zU (f:=zc) (k:=4) (fun _=>rfl) xs;refine Fn.enter Tryz.func67 rfl rfl rfl ?_;intro w hw;obtain⟨x,hx⟩ : ∃ x,xs[0]?=some x:=⟨_,List.getElem?_eq_getElem h0⟩;obtain⟨b,o,rfl,_,hs⟩:=id hw |>.get hx
 repeat (first|refine WO.does (tk (e:=24) Tryz.underlying45 rfl rfl) ?_|refine Ta ?_|(refine Tm ?_;intro _)|(refine WO.makes (ze (cs:=[]) rfl (by decide) rfl) ?_;intro _)|refine Tc ?_|exact Tz)
 refine WO.appKZ (z:=zc 0) (m:=xs.length) (l:=xs.length) rfl rfl rfl (xs:=[]) (ys:=xs.flatMap zc) rfl (Nat.le_refl _) Pk.a (RdF.rds hw rfl) hl (p8 (fun _=>rfl) xs) (Nat.zero_add _) (by omega) (by decide) (by omega) (by decide) (by decide) (fun g1 c1 a2 a3=>?_)
 repeat (first|refine Tw ?_|(refine Tm ?_;intro _)|exact Tz)
 exact WX.ret1 rfl (zt rfl) [⟨g1,24,xs.flatMap zc++mkz (c1 - xs.length) (zc 0)⟩] (by repeat (first|exact Lle.nil|refine Lle.c ?_)) ⟨fun j=>match j with|0=>g1|_=>c1,rfl,rfl,a3,a2⟩
theorem cG (xs:List (Nat × Nat)) (h0:0<xs.length) (hn:xs.length≤1000):Fn Tryz.prog 69 [.slice pt xs.length c] (RdF pfC (.slice pt xs.length c) xs) (NwR 96 pfC (ui 0 0) xs):=by
 have hl:(xs.flatMap pfC).length=xs.length*8:=zU (f:=pfC) (k:=8) (fun _=>rfl) xs;refine Fn.enter Tryz.func69 rfl rfl rfl ?_;intro w hw;obtain⟨x,hx⟩ : ∃ x,xs[0]?=some x:=⟨_,List.getElem?_eq_getElem h0⟩;obtain⟨b,o,rfl,_,hs⟩:=id hw |>.get hx
 repeat (first|refine WO.does (tk (e:=96) Tryz.underlying46 rfl rfl) ?_|refine Ta ?_|(refine Tm ?_;intro _)|(refine WO.makes (ze (cs:=[]) rfl (by decide) rfl) ?_;intro _)|refine Tc ?_|exact Tz)
 refine WO.appKZ (z:=ui 0 0) (m:=xs.length) (l:=xs.length) rfl rfl rfl (xs:=[]) (ys:=xs.flatMap pfC) rfl (Nat.le_refl _) Pk.a (RdF.rds hw rfl) hl (p8 (fun _=>rfl) xs) (Nat.zero_add _) (by omega) (by decide) (by omega) (by decide) (by decide) (fun g1 c1 a2 a3=>?_)
 repeat (first|refine Tw ?_|(refine Tm ?_;intro _)|exact Tz)
 exact WX.ret1 rfl (zt rfl) [⟨g1,96,xs.flatMap pfC++mkz (c1 - xs.length) (ui 0 0)⟩] (by repeat (first|exact Lle.nil|refine Lle.c ?_)) ⟨fun j=>match j with|0=>g1|_=>c1,rfl,rfl,a3,a2⟩
theorem ae (xs:List (Nat × Nat)) (h0:0<xs.length) (hn:xs.length≤1000):Fn Tryz.prog 21 [.slice pt xs.length c] (RdF yw (.slice pt xs.length c) xs) (NwR 78 yw (ui 0 0) xs):=by
 have hl:(xs.flatMap yw).length=xs.length*8:=zU (f:=yw) (k:=8) (fun _=>rfl) xs;refine Fn.enter Tryz.func21 rfl rfl rfl ?_;intro w hw;obtain⟨x,hx⟩ : ∃ x,xs[0]?=some x:=⟨_,List.getElem?_eq_getElem h0⟩;obtain⟨b,o,rfl,_,hs⟩:=id hw |>.get hx
 repeat (first|refine WO.does (tk (e:=78) Tryz.underlying35 rfl rfl) ?_|refine Ta ?_|(refine Tm ?_;intro _)|(refine WO.makes (ze (cs:=[]) rfl (by decide) rfl) ?_;intro _)|refine Tc ?_|exact Tz)
 refine WO.appKZ (z:=ui 0 0) (m:=xs.length) (l:=xs.length) rfl rfl rfl (xs:=[]) (ys:=xs.flatMap yw) rfl (Nat.le_refl _) Pk.a (RdF.rds hw rfl) hl (p8 (fun _=>rfl) xs) (Nat.zero_add _) (by omega) (by decide) (by omega) (by decide) (by decide) (fun g1 c1 a2 a3=>?_)
 repeat (first|refine Tw ?_|(refine Tm ?_;intro _)|exact Tz)
 exact WX.ret1 rfl (zt rfl) [⟨g1,78,xs.flatMap yw++mkz (c1 - xs.length) (ui 0 0)⟩] (by repeat (first|exact Lle.nil|refine Lle.c ?_)) ⟨fun j=>match j with|0=>g1|_=>c1,rfl,rfl,a3,a2⟩
theorem fz (p:Option Addr) (n:Nat) (hc:n≤c):Fn Tryz.prog 66 [.slice p n c] Tr (Is (.slice p n n)):=by
 refine Fn.enter Tryz.func66 rfl rfl rfl ?_;intro w hw
 repeat (first|refine WO.does (qf rfl rfl rfl hc) ?_|refine Ta ?_|(refine Tm ?_;intro _)|refine Tc ?_|exact Tz)
 done
theorem abn (p:Option Addr) (n:Nat) (hc:n≤c):Fn Tryz.prog 68 [.slice p n c] Tr (Is (.slice p n n)):=by
 refine Fn.enter Tryz.func68 rfl rfl rfl ?_;intro w hw
 repeat (first|refine WO.does (qf rfl rfl rfl hc) ?_|refine Ta ?_|(refine Tm ?_;intro _)|refine Tc ?_|exact Tz)
 done
theorem ab0 (p:Option Addr) (n:Nat) (hc:n≤c):Fn Tryz.prog 34 [.slice p n c] Tr (Is (.slice p n n)):=by
 refine Fn.enter Tryz.func34 rfl rfl rfl ?_;intro w hw
 repeat (first|refine WO.does (qf rfl rfl rfl hc) ?_|refine Ta ?_|(refine Tm ?_;intro _)|refine Tc ?_|exact Tz)
 done
end
section
open Kp
variable {P:Program} {w0:World} {gs:List Nat} {n:Nat} {fl:List Nat} {Q:Exit→Act→World→Prop} {ops:List Oper} {L0:List Ent}
variable {tail rest:List Oper} {i:Nat} {C:zE→Prop} {K:zE→List (Nat × Value)} {N:zE→List (Nat × Ent)}
variable {d:Nat} {op:Op} {ty:TypeId} {pos:String} {after:Array Edge} {gd:Option (Nat × Bool)}
theorem DQ.acallXS {f:FuncId} [Cal P f] {xs:Array Operand} {ats:Array TypeId} {vs:List Value} {Rq:World→Prop} {vf:(Nat→Nat)→Value} {Nf:(Nat→Nat)→List Ent} {S:(Nat→Nat)→Prop} (hc:Fn P f vs Rq (Ex vf Nf S)) (hS:∃ x,S x) (hR:∀ w,Mr w0 gs L0 w→Rq w) (ha:∀ s,evs (K s) xs.toList=some vs:=by (intro s;rfl))
  (k:DQ P w0 gs n fl Q ops L0 tail (i+1) rest (fun s=>C s∧S (s i)) (fun s=>(d,vf (s i))::K s) (fun s=>(Nf (s i)).map (fun e=>(i,e))++N s))
  (hfl:fl.contains i=false:=by rfl) (hw:∀ s,wk ops (K s) gd=some true:=by intro _;rfl) (hd:Nat.blt d n=true:=by rfl) :
  DQ P w0 gs n fl Q ops L0 tail i (⟨some d,.call { callee:=.value (.func f),args:=xs,argTypes:=ats },ty,pos,after,gd⟩::rest) C K N :=
 DQ.callsE (fs:=fun _=>[]) (cs:=fun _=>[]) (R:=fun _=>Rq) (vf:=fun _ x=>vf x) (Nf:=fun _ x=>Nf x) (S:=fun _ x=>S x) (fun _=>[]) (fun _=>.nil)
  (fun _=>hS) (fun _ _=>hc) (fun _=>rfl) ha (fun _=>by simp) (fun _ _ w h=>hR w h) Dp.const Dp.const Dp.const k hfl hw hd
end
section
variable (ep d sC sS:Nat) (pV pY pP:Option Addr) (cV cY cP:Nat) (V Y:List Nat) (Pr:List (Nat × Nat))
theorem aaw (hV:0<V.length) (hY:0<Y.length) (hP:0<Pr.length) (hVl:V.length≤1000) (hYl:Y.length≤1000) (hPl:Pr.length≤1000) :
  Fn Tryz.prog 27 [dlV ep d (.slice pV V.length cV) (.slice pY Y.length cY) (.slice pP Pr.length cP) sC sS] (fun w=>RdF zc (.slice pV V.length cV) V w∧RdF zc (.slice pY Y.length cY) Y w∧RdF pfC (.slice pP Pr.length cP) Pr w)
   (Ex (fun s=>dlV ep d (.slice (some ⟨s 0,0,none⟩) V.length V.length) (.slice (some ⟨s 1,0,none⟩) Y.length Y.length) (.slice (some ⟨s 2,0,none⟩) Pr.length Pr.length) sC sS)
    (fun s=>[⟨s 0,24,V.flatMap zc++mkz (s 3) (zc 0)⟩,⟨s 1,24,Y.flatMap zc++mkz (s 4) (zc 0)⟩,⟨s 2,96,Pr.flatMap pfC++mkz (s 5) (ui 0 0)⟩]) (fun _=>True)):=by
 have h1:=kH pV cV V hV hVl;have h2:=kH pY cY Y hY hYl;have h3:=cG pP cP Pr hP hPl;refine Fn.enter Tryz.func27 rfl rfl rfl ?_;intro w hw;obtain⟨wV,wY,wP⟩:=hw
 repeat (first|refine Tw ?_|(refine Tm ?_;intro _)|exact Tz)
 rename_i gA gR;refine WC.adraw 13 (k:=?_)
 iterate 2 (first|refine Da ?_|refine Dc ?_)
 refine DQ.acallXS (hc:=h1) (hS:=⟨fun _=>V.length,Nat.le_refl _,by show V.length<9223372036854775808;omega⟩) (hR:=fun w1 hm=>wV.mod hm.mod) (k:=?_);refine DQ.call (v:=fun s=>.slice (some ⟨s 2 0,0,none⟩) V.length V.length) (fun s hC=>fz (s 2 1) (some ⟨s 2 0,0,none⟩) V.length hC.2.1) (fun s=>rfl) (fun _ _ _ _=>trivial) (by intro s s' h;dsimp only;rw[h]<;>decide +kernel) ?_
 iterate 2 (first|refine Da ?_|refine Dc ?_)
 refine DQ.acallXS (hc:=h2) (hS:=⟨fun _=>Y.length,Nat.le_refl _,by show Y.length<9223372036854775808;omega⟩) (hR:=fun w1 hm=>wY.mod hm.mod) (k:=?_);refine DQ.call (v:=fun s=>.slice (some ⟨s 6 0,0,none⟩) Y.length Y.length) (fun s hC=>fz (s 6 1) (some ⟨s 6 0,0,none⟩) Y.length hC.2.1) (fun s=>rfl) (fun _ _ _ _=>trivial) (by intro s s' h;dsimp only;rw[h]<;>decide +kernel) ?_
 iterate 2 (first|refine Da ?_|refine Dc ?_)
 refine DQ.acallXS (hc:=h3) (hS:=⟨fun _=>Pr.length,Nat.le_refl _,by show Pr.length<9223372036854775808;omega⟩) (hR:=fun w1 hm=>wP.mod hm.mod) (k:=?_);refine DQ.call (v:=fun s=>.slice (some ⟨s 10 0,0,none⟩) Pr.length Pr.length) (fun s hC=>abn (s 10 1) (some ⟨s 10 0,0,none⟩) Pr.length hC.2.1) (fun s=>rfl) (fun _ _ _ _=>trivial) (by intro s s' h;dsimp only;rw[h]<;>decide +kernel) ?_
 iterate 1 (first|refine Da ?_|refine Dc ?_)
 refine DQ.anil (k:=?_);intro sx _
 try simp only[List.map_cons,List.map_nil,List.cons_append,List.nil_append]
 generalize sx 2 0=gV;generalize sx 2 1 - V.length=rV;generalize sx 6 0=gY;generalize sx 6 1 - Y.length=rY;generalize sx 10 0=gP;generalize sx 10 1 - Pr.length=rP
 repeat (first|refine Tw ?_|(refine Tm ?_;intro _)|exact Tz)
 exact WX.ret1 rfl (yx rfl Hs.a rfl rfl) [⟨gV,24,V.flatMap zc++mkz rV (zc 0)⟩,⟨gY,24,Y.flatMap zc++mkz rY (zc 0)⟩,⟨gP,96,Pr.flatMap pfC++mkz rP (ui 0 0)⟩] (by repeat (first|exact Lle.nil|refine Lle.c ?_)) ⟨fun j=>match j with|0=>gV|1=>gY|2=>gP|3=>rV|4=>rY|_=>rP,rfl,rfl,trivial⟩
end
structure Dd where
 d:Nat
 V:List Nat
 Y:List Nat
 P:List (Nat × Nat)
 c:Nat
 s:Nat
structure Dk where
 v:Nat
 y:Nat
 p:Nat
 rv:Nat
 ry:Nat
 rp:Nat
def ddH (ep:Nat) (x:Dd):List Nat:=yX ep x.d x.V x.Y x.P
def ddV (ep:Nat) (x:Dd) (b:Dk):Value:=dlV ep x.d (.slice (some ⟨b.v,0,none⟩) x.V.length x.V.length) (.slice (some ⟨b.y,0,none⟩) x.Y.length x.Y.length) (.slice (some ⟨b.p,0,none⟩) x.P.length x.P.length) x.c x.s
def ddL (x:Dd) (b:Dk):List Ent:=[⟨b.v,24,x.V.flatMap zc++mkz b.rv (zc 0)⟩,⟨b.y,24,x.Y.flatMap zc++mkz b.ry (zc 0)⟩,⟨b.p,96,x.P.flatMap pfC++mkz b.rp (ui 0 0)⟩]
def hsV (h:List Nat):Value:=.agg (byC h).toArray
def ddM (ep:Nat) (D:List (Dd × Dk)):List (Value × Value):=D.map fun x=>(hsV (ddH ep x.1),ddV ep x.1 x.2)
def ddR (D:List (Dd × Dk)):List Ent:=D.flatMap fun x=>ddL x.1 x.2
def ddK (ep:Nat) (D:List (Dd × Dk)) (k:Nat):List (List Nat):=(D.filter fun x=>x.1.d == k).map fun x=>ddH ep x.1
def lsV (lg lc:Nat→Nat) (hk:Nat→List (List Nat)) (k:Nat):Value:=agV (lg k) (lc k) (hk k).length (hk k).length
def lsE (lg lc:Nat→Nat) (hk:Nat→List (List Nat)) (k:Nat):List Ent:=rwL 60 (lg k) ((hk k).flatMap byC) (mkz (lc k - (hk k).length) (byC (List.replicate 32 0))) (hk k).length
def lsL (lg lc:Nat→Nat) (hk:Nat→List (List Nat)):List Ent:=(List.range 8).flatMap (lsE lg lc hk)
abbrev plC (p q g h:Nat) (f sec:Int) (ns:Value) (ep gM:Nat) (l:Nat→Value):List Value:=stC p q g h f sec ns++[.int .u64 (ep:Int),.map (some gM),l 0,l 1,l 2,l 3,l 4,l 5,l 6,l 7]
instance mpt_pool:MpT Tryz.prog 81 60 50 where
 under:=by kernel_rfl
theorem vV:WideMaps.KeyLaw Tryz.prog 60:=deep_law (m:=2) (by decide) (by kernel_rfl) (by kernel_rfl) (by kernel_rfl)
theorem lQ (D:Nat):∀ (H:List Nat),(∀ b∈H,b<256)→∀ i,i<H.length→∃ l,Tryz.prog.keyLits (D+1) 5 (((byC H).drop (i*1)).take 1)=some l:=by
 intro H hH i hi;have h2:((byC H).drop (i*1)).take 1=[.int .u8 ((H[i]:Nat):Int)]:=by
  rw[Nat.mul_one,List.drop_eq_getElem_cons (by rw[zh];exact hi)];simp[byC]
 rw[h2];have hb:=hH _ (List.getElem_mem hi);have w2:(Lit.int .u8 ((H[i]:Nat):Int)).wf=true:=by simp[Lit.wf,IntKind.min,IntKind.max,IntKind.signed,IntKind.bits];omega
 exact⟨_,by simp[Program.keyLits,Tryz.underlying5,w2];rfl⟩
theorem np {α β:Type} (f:α→Option β):∀ L:List α,(∀ i∈L,∃ l,f i=some l)→∃ ls,L.mapM f=some ls
 | [],_=>⟨[],rfl⟩
 | a::L,h=>by
  obtain⟨x,hx⟩:=h a List.mem_cons_self;obtain⟨ls,hls⟩:=np f L (fun i hi=>h i (List.mem_cons_of_mem _ hi));exact⟨x::ls,by simp[List.mapM_cons,hx,hls]⟩
theorem uX (H:List Nat) (hH:∀ b∈H,b<256) (hl:H.length=32):∃ l,keyOf Tryz.prog 60 (hsV H)=some l:=by
 have c1:Tryz.prog.cellsOf 60=32:=by kernel_rfl
 have c2:Tryz.prog.cellsOf 5=1:=by kernel_rfl
 have hb:(byC H).length=32:=by rw[zh];exact hl
 have hk:Tryz.prog.keyType 60=true:=by kernel_rfl
 have hf:(hsV H).formed Tryz.prog 60=true:=by simp[hsV,Value.formed,Tryz.underlying60,c1,hb]
 obtain⟨n,hn⟩ : ∃ n,Tryz.prog.types.size+1=n+2:=⟨Tryz.prog.types.size - 1,by have:1≤Tryz.prog.types.size:=(by decide +kernel);omega⟩;obtain⟨ls,hls⟩:=np (fun i=>Tryz.prog.keyLits (n+1) 5 (((byC H).drop (i*1)).take 1)) (List.range 32) (fun i hi=>lQ n H hH i (by have:=List.mem_range.1 hi;omega));have hkk:Tryz.prog.keyLits (n+2) 60 (byC H)=some ls.flatten:=by
  rw[Program.keyLits.eq_def];simp only[Tryz.underlying60,c1,c2,hb,if_true];rw[hls];rfl
 unfold keyOf;rw[Tryz.underlying60];simp only[hk,hf,Bool.and_self,if_true,hn];rw[show (hsV H).cells.toList=byC H by simp[hsV,Value.cells],hkk];exact⟨_,rfl⟩
theorem ef:∀ {A B:List Nat},byC A=byC B→A=B
 | [],[],_=>rfl
 | [],b::B,h=>by simp[byC] at h
 | a::A,[],h=>by simp[byC] at h
 | a::A,b::B,h=>by
  simp only[byC,List.map_cons,List.cons.injEq,Value.int.injEq,true_and] at h;rw[ef (A:=A) (B:=B) h.2];have:=h.1;congr 1;omega
theorem oZ {A B:List Nat} (h:hsV A=hsV B):A=B:=by
 unfold hsV at h;have h1:byC A=byC B:=by
  injection h with h
  simpa using congrArg Array.toList h
 exact ef h1
section
variable (p q g h:Nat) (f sec:Int) (ns:Value) (ep gM P:Nat) (l:Nat→Value)
theorem sD:Fn Tryz.prog 25 [pt P] (fun w=>Seg w P 0 (plC p q g h f sec ns ep gM l)) (Is (.bool true)):=by
 refine Fn.enter Tryz.func25 rfl rfl rfl ?_;intro w hw
 repeat (first|refine WO.does (jQ (e:=84) (by kernel_rfl) rfl rfl) ?_|refine WO.does (zi (hs:=hw) (hc:=rfl)) ?_|refine WO.does (mU (kt:=60) (e:=50) (by kernel_rfl) rfl rfl) ?_|refine Ta ?_|(refine Tm ?_;intro _)|refine Tc ?_|exact Tz)
 done
theorem rh:Fn Tryz.prog 25 [.pointer none] Tr (Is (.bool false)):=by
 refine Fn.enter Tryz.func25 rfl rfl rfl ?_;intro w hw
 repeat (first|refine WO.does (iK (e:=84) (by kernel_rfl) rfl rfl) ?_|refine Ta ?_|(refine Tm ?_;intro _)|refine Tc ?_|exact Tz)
 done
theorem kY (pt:Option Addr) (n c:Nat) (k:Nat) (hf1 : -9223372036854775808≤(n:Int) - f) (hf2:(n:Int) - f≤9223372036854775807):Fn Tryz.prog 33 [Sx.pt P,.int .i64 (k:Int)] (fun w=>Seg w P 0 (plC p q g h f sec (.slice pt n c) ep gM l)) (Is (.bool (decide ((n:Int) - f≤(k:Int))))):=by
 have hs:IntKind.i64.wrap ((n:Int) - f)=(n:Int) - f:=i64_in hf1 hf2;obtain⟨b,hb⟩ : ∃ b,decide ((n:Int) - f≤(k:Int))=b:=⟨_,rfl⟩;rw[hb];refine Fn.enter Tryz.func33 rfl rfl rfl ?_;intro w hw
 repeat (first|refine Tw ?_|(refine Tm ?_;intro _)|exact Tz)
 refine WC.adraw 15 (k:=?_)
 iterate 15 (first|refine DQ.does (fun s _=>zi (hs:=hw) (hc:=rfl)) Dp.const ?_|refine DQ.does (fun s _=>zH rfl rfl hs) Dp.const ?_|refine DQ.does (fun s _=>ec rfl rfl hb) Dp.const ?_|refine Da ?_|refine Dc ?_)
 refine DQ.anil (k:=?_);intro sx _
 repeat (first|refine Tw ?_|(refine Tm ?_;intro _)|exact Tz)
 done
end
def NwP (p q g h:Nat) (f sec:Int) (N:List (Nat × Nat)) (ep:Nat) (b:Bool):Value→List Ent→Prop:=fun v M =>
 (b=true→∃ P gN cN gM,v=.tuple #[Sx.pt P,.int .i64 0]∧M=[⟨P,84,plC p q g h f sec (.slice (some ⟨gN,0,none⟩) N.length cN) ep gM (fun _=>.slice none 0 0)⟩,⟨gN,78,N.flatMap yw++mkz (cN - N.length) (ui 0 0)⟩,mpE gM []])∧(b=false→v=.tuple #[.pointer none,.int .i64 1])
section
variable (p q g h:Nat) (f sec:Int) (pt:Option Addr) (c:Nat) (N:List (Nat × Nat)) (ep:Nat)
theorem ft (hp:p<zd) (hq:q<zd) (hg:g<zd) (hh:h<zd) (hN:yz N) (hNl:N.length≤100)
  (hf1 : -9223372036854775808≤f) (hf2:f≤9223372036854775807) (hs1 : -9223372036854775808≤sec) (hs2:sec≤9223372036854775807) (hep:ep<18446744073709551616) :
  Fn Tryz.prog 8 [stV p q g h f sec (.slice pt N.length c),.int .u64 (ep:Int)] (fun w=>RdF yw (.slice pt N.length c) N w) (NwP p q g h f sec N ep (uc p q g h f sec N)):=by
 have hS:=tN p q g h f sec pt c N hp hq hg hh hN (by omega) hf1 hf2 hs1 hs2;cases e1:uc p q g h f sec N with
 | false =>
  rw[e1] at hS;refine Fn.enter Tryz.func8 rfl rfl rfl ?_;intro w hw
  repeat (first|refine Ta ?_|(refine Tm ?_;intro _)|refine WO.acallR (hc:=hS) (hR:=fun w1 hm=>(hw.mod hm.mod).rdK) (k:=?_)|refine Tc ?_|exact Tz)
  exact WX.ret2 rfl (zt rfl) (zt rfl) [] Lle.nil ⟨(fun e=>by cases e),fun _=>rfl⟩
 | true =>
  rw[e1] at hS;have h1:=(vK e1).1;have hC:=ae pt c N (by omega) (by omega);refine Fn.enter Tryz.func8 rfl rfl rfl ?_;intro w hw
  repeat (first|refine Ta ?_|(refine Tm ?_;intro _)|refine WO.acallR (hc:=hS) (hR:=fun w1 hm=>(hw.mod hm.mod).rdK) (k:=?_)|refine Tc ?_|exact Tz)
  refine WO.acallX (hc:=hC) (hR:=fun w1 hm=>hw.mod hm.mod) (k:=fun yy hyy=>?_);generalize yy 0=gN;generalize yy 1=cN;simp only[List.cons_append,List.nil_append]
  repeat (first|refine Ta ?_|(refine Tm ?_;intro _)|(refine WO.makesMap (fun gM=>?_))|refine Tc ?_|exact Tz)
  rename_i gS gP;exact WX.ret2 rfl (zt rfl) (zt rfl) [⟨gP,84,plC p q g h f sec (.slice (some ⟨gN,0,none⟩) N.length cN) ep gM (fun _=>.slice none 0 0)⟩,⟨gN,78,N.flatMap yw++mkz (cN - N.length) (ui 0 0)⟩,mpE gM []] (by repeat (first|exact Lle.nil|refine Lle.m ?_|refine Lle.c ?_)) ⟨fun _=>⟨gP,gN,cN,gM,rfl,rfl⟩,fun e=>by cases e⟩
end
end Sx
end
end Go.Proofs.YteibfbjpkjkejaaGreatDoor
