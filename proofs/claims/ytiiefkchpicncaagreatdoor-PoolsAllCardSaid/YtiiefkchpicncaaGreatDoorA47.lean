/- Part 47 of the proof. -/
import Derived.Test.YtiiefkchpicncaaGreatDoorA46
set_option linter.unusedSimpArgs false
set_option linter.unusedVariables false
set_option maxHeartbeats 8000000
namespace Go.Proofs.YtiiefkchpicncaaGreatDoor
section
open Go Go.RowKit Go.BigFrame
namespace Sx
attribute [local irreducible] DQ WC WO WX wd
theorem bW {m:Nat} (h:m<18446744073709551616):zb m=[.int .u64 (m:Int),.int .u64 ((wd 1 0:Nat):Int),.int .u64 ((wd 2 0:Nat):Int),.int .u64 ((wd 3 0:Nat):Int)]:=by
 have h0:wd 0 m=m:=aaC h;have h1:wd 1 m=wd 1 0:=by unfold wd;simp only;rw[Nat.div_eq_of_lt h]
 have h2:wd 2 m=wd 2 0:=by unfold wd;simp only;rw[Nat.div_eq_of_lt Om]
 have h3:wd 3 m=wd 3 0:=by unfold wd;simp only;rw[Nat.div_eq_of_lt Om]
 unfold zb;rw[h0,h1,h2,h3]
def rwL (t g:Nat) (B r:List Value):Nat→List Ent
 | 0=>[]
 | _+1=>[⟨g,t,B++r⟩]
theorem oZ {P:Program} {w0:World} {gs:List Nat} {K:List (Nat × Value)} {L:List Ent} {x y:Operand} {t yt ty:TypeId} {k:IntKind} {m n:Nat} (hx:ev K x=some (.int k (m:Int))) (hy:ev K y=some (.int k (n:Int))) (hn:0<n):Does P w0 gs K L (.binOp .rem t x y yt) ty (.int k ((m%n:Nat):Int)) :=
 vG hx hy Om rfl
theorem nZ (n:Nat) (hn:n<18446744073709551616):Fn Tryz.prog 53 [.int .u64 (n:Int)] Tr (Is (.bool (y4 n))):=by
 by_cases t1:n<2
 ·rw[nS (.inl t1)];refine Fn.enter Tryz.func53 rfl rfl rfl ?_;intro w hw
  repeat (first|refine WO.does (vB rfl rfl Om) ?_|refine Ta ?_|(refine Tm ?_;intro _)|refine Tc ?_|exact Tz)
  done
 have hsh:((n:Nat):Int).fdiv (2 ^ (min (32:Int).toNat IntKind.u64.bits))=((n / 4294967296:Nat):Int):=by
  show Int.fdiv (n:Int) 4294967296=_;rw[Int.fdiv_eq_ediv_of_nonneg _ (by decide)];omega
 by_cases t2:4294967296≤n
 ·rw[nS (.inr t2)];have h1:1≤n / 4294967296:=by omega
  generalize n / 4294967296=m at *;refine Fn.enter Tryz.func53 rfl rfl rfl ?_;intro w hw
  repeat (first|refine WO.does (yh rfl rfl Om) ?_|refine WO.does (vg rfl rfl (by decide) hsh) ?_|refine WO.does (tN rfl rfl Om) ?_|refine Ta ?_|(refine Tm ?_;intro _)|refine Tc ?_|exact Tz)
  done
 have h0:n / 4294967296=0:=by omega
 rw[h0] at hsh;refine Fn.enter Tryz.func53 rfl rfl rfl ?_;intro w hw
 repeat (first|refine WO.does (yh rfl rfl Om) ?_|refine WO.does (vg rfl rfl (by decide) hsh) ?_|refine WO.does (y6 rfl rfl Om) ?_|refine Ta ?_|(refine Tm ?_;intro _)|refine Tc ?_|exact Tz)
 refine WC.loopI (σ:=Nat) (fun d=>2≤d∧d≤65536∧∀ e,2≤e→e<d→n%e≠0) (fun d=>[(0,.int .u64 (n:Int)),(3,.bool true),(4,.int .u64 (d:Int))]) (fun _=>[]) (fun d=>65537 - d) 2 (fun d hi=>?_) ⟨Nat.le_refl _,by decide,fun e h1 h2=>by omega⟩
 try dsimp only at hi ⊢
 obtain⟨hd2,hd,hno⟩:=hi;have hdd:d*d≤65536*65536:=Nat.mul_le_mul hd hd;have hmul:IntKind.u64.wrap ((d:Int)*(d:Int))=((d*d:Nat):Int):=by rw[Int.natCast_mul];exact u64_in (by rw[← Int.natCast_mul];omega) (by rw[← Int.natCast_mul];omega)
 by_cases hle:d*d≤n
 ·have hne:d≠65536:=by rintro rfl;omega
  have hadd:IntKind.u64.wrap ((d:Int)+1)=((d+1:Nat):Int):=vN Om Om Om
  by_cases hz:n%d=0
  ·rw[cG hd2 hle hz]
   repeat (first|refine WO.does (yY rfl rfl hmul) ?_|refine Ta ?_|(refine Tm ?_;intro _)|refine Tc ?_|exact Tz)
   refine WC.dT rfl Om ?_
   repeat (first|refine WO.does (oZ rfl rfl Om) ?_|refine WO.does (zZ rfl rfl Om) ?_|refine Ta ?_|(refine Tm ?_;intro _)|refine Tc ?_|exact Tz)
   done
  ·repeat (first|refine WO.does (yY rfl rfl hmul) ?_|refine Ta ?_|(refine Tm ?_;intro _)|refine Tc ?_|exact Tz)
   refine WC.dT rfl Om ?_
   repeat (first|refine WO.does (oZ rfl rfl Om) ?_|refine WO.does (yg rfl rfl Om) ?_|refine WO.does (zi rfl rfl hadd) ?_|refine Ta ?_|(refine Tm ?_;intro _)|refine Tc ?_|exact Tz)
   exact WX.metI (d+1) (hs:=⟨⟨by show 2≤d+1;omega,by show d+1≤65536;omega,fun e h1 h2=>by
    rcases Nat.lt_or_ge e d with h3|h3
    ·exact hno e h1 h3
    ·rw[show e=d by omega];exact hz⟩,by show 65537 - (d+1)<65537 - d;omega⟩)
 ·rw[iT Om Om (Nat.lt_of_not_le hle) hno]
  repeat (first|refine WO.does (yY rfl rfl hmul) ?_|refine Ta ?_|(refine Tm ?_;intro _)|refine Tc ?_|exact Tz)
  refine WC.dF rfl Om ?_
  repeat (first|refine Tw ?_|(refine Tm ?_;intro _)|exact Tz)
section
variable (p q g h:Nat) (f sec:Int) (pt:Option Addr) (c:Nat) (N:List (Nat × Nat)) (pz:Option Addr) (cz:Nat) (l:List Nat)
theorem pQ {a q:Nat}:(0≤uF a q)↔¬ a<q:=by
 unfold uF;split
 ·rename_i h;subst h;simp
 ·split
  ·rename_i h;simp[h]
  ·rename_i h;simp[h]
end
section
variable {P:Program} {w0:World} {gs:List Nat} {K:List (Nat × Value)} {L:List Ent}
theorem vx {x y:Operand} {t yt ty:TypeId} {k:IntKind} {m n:Int} {b:Bool} (hx:ev K x=some (.int k m)) (hy:ev K y=some (.int k n)) (hr:decide (m<n)=b):Does P w0 gs K L (.binOp .lss t x y yt) ty (.bool b):=by
 cases b with
 | true=>exact vB hx hy (of_decide_eq_true hr)
 | false=>exact yh hx hy (of_decide_eq_false hr)
theorem vy {x y:Operand} {t yt ty:TypeId} {k:IntKind} {m n:Int} {b:Bool} (hx:ev K x=some (.int k m)) (hy:ev K y=some (.int k n)) (hr:decide (m > n)=b):Does P w0 gs K L (.binOp .gtr t x y yt) ty (.bool b):=by
 cases b with
 | true=>exact tN hx hy (of_decide_eq_true hr)
 | false=>exact y6 hx hy (of_decide_eq_false hr)
theorem gJ {x y:Operand} {t yt ty:TypeId} {k:IntKind} {m n:Int} {b:Bool} (hx:ev K x=some (.int k m)) (hy:ev K y=some (.int k n)) (hr:decide (n≤m)=b):Does P w0 gs K L (.binOp .geq t x y yt) ty (.bool b):=by
 cases b with
 | true=>exact uG hx hy (of_decide_eq_true hr)
 | false=>exact yv hx hy (of_decide_eq_false hr)
theorem oQ {x y:Operand} {t yt ty:TypeId} {k:IntKind} {m n:Int} {b:Bool} (hx:ev K x=some (.int k m)) (hy:ev K y=some (.int k n)) (hr:decide (m=n)=b):Does P w0 gs K L (.binOp .eql t x y yt) ty (.bool b):=by
 cases b with
 | true=>exact zZ hx hy (of_decide_eq_true hr)
 | false=>exact yg hx hy (of_decide_eq_false hr)
end
theorem yd {g c n:Nat} (h:0<n):agV g c n n=.slice (some ⟨g,0,none⟩) n c:=by cases n with|zero=>omega|succ n=>rfl
theorem ye {t g:Nat} {B r:List Value} {n:Nat} (h:0<n):rwL t g B r n=[⟨g,t,B++r⟩]:=by cases n with|zero=>omega|succ n=>rfl
abbrev csC (p q g h a:Nat) (f sec:Int) (ks:Value):List Value:=[.int .u64 ((wd 0 p:Nat):Int),.int .u64 ((wd 1 p:Nat):Int),.int .u64 ((wd 2 p:Nat):Int),.int .u64 ((wd 3 p:Nat):Int),.int .u64 ((wd 0 q:Nat):Int),.int .u64 ((wd 1 q:Nat):Int),.int .u64 ((wd 2 q:Nat):Int),.int .u64 ((wd 3 q:Nat):Int),.int .u64 ((wd 0 g:Nat):Int),.int .u64 ((wd 1 g:Nat):Int),.int .u64 ((wd 2 g:Nat):Int),.int .u64 ((wd 3 g:Nat):Int),.int .u64 ((wd 0 h:Nat):Int),.int .u64 ((wd 1 h:Nat):Int),.int .u64 ((wd 2 h:Nat):Int),.int .u64 ((wd 3 h:Nat):Int),.int .u64 ((wd 0 a:Nat):Int),.int .u64 ((wd 1 a:Nat):Int),.int .u64 ((wd 2 a:Nat):Int),.int .u64 ((wd 3 a:Nat):Int),.int .i64 f,.int .i64 sec,ks]
abbrev csV (p q g h a:Nat) (f sec:Int) (ks:Value):Value:=.agg #[.int .u64 ((wd 0 p:Nat):Int),.int .u64 ((wd 1 p:Nat):Int),.int .u64 ((wd 2 p:Nat):Int),.int .u64 ((wd 3 p:Nat):Int),.int .u64 ((wd 0 q:Nat):Int),.int .u64 ((wd 1 q:Nat):Int),.int .u64 ((wd 2 q:Nat):Int),.int .u64 ((wd 3 q:Nat):Int),.int .u64 ((wd 0 g:Nat):Int),.int .u64 ((wd 1 g:Nat):Int),.int .u64 ((wd 2 g:Nat):Int),.int .u64 ((wd 3 g:Nat):Int),.int .u64 ((wd 0 h:Nat):Int),.int .u64 ((wd 1 h:Nat):Int),.int .u64 ((wd 2 h:Nat):Int),.int .u64 ((wd 3 h:Nat):Int),.int .u64 ((wd 0 a:Nat):Int),.int .u64 ((wd 1 a:Nat):Int),.int .u64 ((wd 2 a:Nat):Int),.int .u64 ((wd 3 a:Nat):Int),.int .i64 f,.int .i64 sec,ks]
section
variable (p q g h a:Nat) (f sec:Int) (kv:Value)
theorem aci (hp:p<zd) (hq:q<zd):Fn Tryz.prog 24 [csV p q g h a f sec kv] Tr (Is (.bool (rb p q))):=by
 have wp0:wd 0 p<18446744073709551616:=z7 0 p;have wq0:wd 0 q<18446744073709551616:=z7 0 q;have hS1:=nZ (wd 0 p) wp0;have hS2:=nZ (wd 0 q) wq0;have hO1:=ai (wd 0 p) wp0;have hO2:=ai (wd 0 q) wq0;have hwp:wd 0 p<zd:=tW wp0;have hwq:wd 0 q<zd:=tW wq0;obtain⟨b1,h1⟩ : ∃ b,decide (wd 0 p<4294967296)=b:=⟨_,rfl⟩;obtain⟨b2,h2⟩ : ∃ b,decide (1<wd 0 q)=b:=⟨_,rfl⟩;obtain⟨b3,h3⟩ : ∃ b,decide (p=wd 0 p)=b:=⟨_,rfl⟩;obtain⟨b4,h4⟩ : ∃ b,decide (q=wd 0 q)=b:=⟨_,rfl⟩;obtain⟨b7,h7⟩ : ∃ b,decide ((wd 0 p - 1)%wd 0 q=0)=b:=⟨_,rfl⟩;have g1:decide (((wd 0 p:Nat):Int)<4294967296)=b1:=by rw[← h1];exact decide_eq_decide.2 Om
 have g2:decide (((wd 0 q:Nat):Int) > 1)=b2:=by rw[← h2];exact decide_eq_decide.2 Om
 have hsm:y4 (wd 0 p)=true→1≤wd 0 p:=fun h=>by
  unfold y4 at h;simp only[Bool.and_eq_true,decide_eq_true_eq] at h;omega
 unfold rb;rw[h1,h2,h3,h4,h7];generalize hm1:y4 (wd 0 p)=b5 at *;generalize y4 (wd 0 q)=b6 at *;cases b1 with
 | false =>
  simp only[Bool.true_and,Bool.false_and,Bool.and_false];refine Fn.enter Tryz.func24 rfl rfl rfl ?_;intro w hw
  repeat (first|refine Tw ?_|(refine Tm ?_;intro _)|exact Tz)
  refine WC.adraw 42 (k:=?_)
  iterate 42 (first|refine DQ.does (fun s _=>vx rfl rfl g1) Dp.const ?_|refine DQ.does (fun s _=>vy rfl rfl g2) Dp.const ?_|refine DQ.does (fun s _=>zt rfl rfl hp hwp h3) Dp.const ?_|refine DQ.does (fun s _=>zt rfl rfl hq hwq h4) Dp.const ?_|refine Da ?_|refine DQ.acall (hc:=hS1) (k:=?_)|refine DQ.acall (hc:=hS2) (k:=?_)|refine DQ.acall (hc:=hO1) (k:=?_)|refine DQ.acall (hc:=hO2) (k:=?_)|refine Dc ?_)
  refine DQ.anil (k:=?_);intro sx _
  repeat (first|refine Tw ?_|(refine Tm ?_;intro _)|exact Tz)
  done
 | true =>
 cases b2 with
 | false =>
  simp only[Bool.true_and,Bool.false_and,Bool.and_false];refine Fn.enter Tryz.func24 rfl rfl rfl ?_;intro w hw
  repeat (first|refine Tw ?_|(refine Tm ?_;intro _)|exact Tz)
  refine WC.adraw 42 (k:=?_)
  iterate 42 (first|refine DQ.does (fun s _=>vx rfl rfl g1) Dp.const ?_|refine DQ.does (fun s _=>vy rfl rfl g2) Dp.const ?_|refine DQ.does (fun s _=>zt rfl rfl hp hwp h3) Dp.const ?_|refine DQ.does (fun s _=>zt rfl rfl hq hwq h4) Dp.const ?_|refine Da ?_|refine DQ.acall (hc:=hS1) (k:=?_)|refine DQ.acall (hc:=hS2) (k:=?_)|refine DQ.acall (hc:=hO1) (k:=?_)|refine DQ.acall (hc:=hO2) (k:=?_)|refine Dc ?_)
  refine DQ.anil (k:=?_);intro sx _
  repeat (first|refine Tw ?_|(refine Tm ?_;intro _)|exact Tz)
  done
 | true =>
 cases b3 with
 | false =>
  simp only[Bool.true_and,Bool.false_and,Bool.and_false];refine Fn.enter Tryz.func24 rfl rfl rfl ?_;intro w hw
  repeat (first|refine Tw ?_|(refine Tm ?_;intro _)|exact Tz)
  refine WC.adraw 42 (k:=?_)
  iterate 42 (first|refine DQ.does (fun s _=>vx rfl rfl g1) Dp.const ?_|refine DQ.does (fun s _=>vy rfl rfl g2) Dp.const ?_|refine DQ.does (fun s _=>zt rfl rfl hp hwp h3) Dp.const ?_|refine DQ.does (fun s _=>zt rfl rfl hq hwq h4) Dp.const ?_|refine Da ?_|refine DQ.acall (hc:=hS1) (k:=?_)|refine DQ.acall (hc:=hS2) (k:=?_)|refine DQ.acall (hc:=hO1) (k:=?_)|refine DQ.acall (hc:=hO2) (k:=?_)|refine Dc ?_)
  refine DQ.anil (k:=?_);intro sx _
  repeat (first|refine Tw ?_|(refine Tm ?_;intro _)|exact Tz)
  done
 | true =>
 cases b4 with
 | false =>
  simp only[Bool.true_and,Bool.false_and,Bool.and_false];refine Fn.enter Tryz.func24 rfl rfl rfl ?_;intro w hw
  repeat (first|refine Tw ?_|(refine Tm ?_;intro _)|exact Tz)
  refine WC.adraw 42 (k:=?_)
  iterate 42 (first|refine DQ.does (fun s _=>vx rfl rfl g1) Dp.const ?_|refine DQ.does (fun s _=>vy rfl rfl g2) Dp.const ?_|refine DQ.does (fun s _=>zt rfl rfl hp hwp h3) Dp.const ?_|refine DQ.does (fun s _=>zt rfl rfl hq hwq h4) Dp.const ?_|refine Da ?_|refine DQ.acall (hc:=hS1) (k:=?_)|refine DQ.acall (hc:=hS2) (k:=?_)|refine DQ.acall (hc:=hO1) (k:=?_)|refine DQ.acall (hc:=hO2) (k:=?_)|refine Dc ?_)
  refine DQ.anil (k:=?_);intro sx _
  repeat (first|refine Tw ?_|(refine Tm ?_;intro _)|exact Tz)
  done
 | true =>
 cases b5 with
 | false =>
  simp only[Bool.true_and,Bool.false_and,Bool.and_false];refine Fn.enter Tryz.func24 rfl rfl rfl ?_;intro w hw
  repeat (first|refine Tw ?_|(refine Tm ?_;intro _)|exact Tz)
  refine WC.adraw 42 (k:=?_)
  iterate 42 (first|refine DQ.does (fun s _=>vx rfl rfl g1) Dp.const ?_|refine DQ.does (fun s _=>vy rfl rfl g2) Dp.const ?_|refine DQ.does (fun s _=>zt rfl rfl hp hwp h3) Dp.const ?_|refine DQ.does (fun s _=>zt rfl rfl hq hwq h4) Dp.const ?_|refine Da ?_|refine DQ.acall (hc:=hS1) (k:=?_)|refine DQ.acall (hc:=hS2) (k:=?_)|refine DQ.acall (hc:=hO1) (k:=?_)|refine DQ.acall (hc:=hO2) (k:=?_)|refine Dc ?_)
  refine DQ.anil (k:=?_);intro sx _
  repeat (first|refine Tw ?_|(refine Tm ?_;intro _)|exact Tz)
  done
 | true =>
 cases b6 with
 | false =>
  simp only[Bool.true_and,Bool.false_and,Bool.and_false];refine Fn.enter Tryz.func24 rfl rfl rfl ?_;intro w hw
  repeat (first|refine Tw ?_|(refine Tm ?_;intro _)|exact Tz)
  refine WC.adraw 42 (k:=?_)
  iterate 42 (first|refine DQ.does (fun s _=>vx rfl rfl g1) Dp.const ?_|refine DQ.does (fun s _=>vy rfl rfl g2) Dp.const ?_|refine DQ.does (fun s _=>zt rfl rfl hp hwp h3) Dp.const ?_|refine DQ.does (fun s _=>zt rfl rfl hq hwq h4) Dp.const ?_|refine Da ?_|refine DQ.acall (hc:=hS1) (k:=?_)|refine DQ.acall (hc:=hS2) (k:=?_)|refine DQ.acall (hc:=hO1) (k:=?_)|refine DQ.acall (hc:=hO2) (k:=?_)|refine Dc ?_)
  refine DQ.anil (k:=?_);intro sx _
  repeat (first|refine Tw ?_|(refine Tm ?_;intro _)|exact Tz)
  done
 | true =>
 simp only[Bool.true_and];have hsub:IntKind.u64.wrap (((wd 0 p:Nat):Int) - 1)=((wd 0 p - 1:Nat):Int):=by have:=hsm rfl;exact vN Om Om Om
 have hq2:=of_decide_eq_true h2;have hrem:(((wd 0 p - 1:Nat):Int)).tmod ((wd 0 q:Nat):Int)=(((wd 0 p - 1)%wd 0 q:Nat):Int):=rfl;have g7:decide ((((wd 0 p - 1)%wd 0 q:Nat):Int)=0)=b7:=by rw[← h7];exact decide_eq_decide.2 Om
 refine Fn.enter Tryz.func24 rfl rfl rfl ?_;intro w hw
 repeat (first|refine Tw ?_|(refine Tm ?_;intro _)|exact Tz)
 refine WC.adraw 42 (k:=?_)
 iterate 42 (first|refine DQ.does (fun s _=>vx rfl rfl g1) Dp.const ?_|refine DQ.does (fun s _=>vy rfl rfl g2) Dp.const ?_|refine DQ.does (fun s _=>zt rfl rfl hp hwp h3) Dp.const ?_|refine DQ.does (fun s _=>zt rfl rfl hq hwq h4) Dp.const ?_|refine DQ.does (fun s _=>zG rfl rfl hsub) Dp.const ?_|refine DQ.does (fun s _=>vG rfl rfl Om hrem) Dp.const ?_|refine DQ.does (fun s _=>oQ rfl rfl g7) Dp.const ?_|refine Da ?_|refine DQ.acall (hc:=hS1) (k:=?_)|refine DQ.acall (hc:=hS2) (k:=?_)|refine DQ.acall (hc:=hO1) (k:=?_)|refine DQ.acall (hc:=hO2) (k:=?_)|refine Dc ?_)
 refine DQ.anil (k:=?_);intro sx _
 repeat (first|refine Tw ?_|(refine Tm ?_;intro _)|exact Tz)
 done
end
end Sx
end
end Go.Proofs.YtiiefkchpicncaaGreatDoor
