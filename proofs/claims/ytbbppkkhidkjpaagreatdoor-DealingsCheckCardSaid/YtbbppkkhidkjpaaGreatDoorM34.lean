/- Part 34 of the proof. -/
import Derived.Test.YtbbppkkhidkjpaaGreatDoorM33
set_option linter.unusedSimpArgs false
set_option linter.unusedVariables false
set_option maxHeartbeats 8000000
namespace Go.Proofs.YtbbppkkhidkjpaaGreatDoor
section
open Go Go.RowKit Go.BigFrame
namespace Sx
theorem aaw {n:Nat} (h:n<18446744073709551616):wd 0 n=n:=Nat.mod_eq_of_lt h
attribute [local irreducible] wd DQ DQS WO WC WX
theorem nF {N:List (Nat × Nat)} {o i:Nat} {k:Nat × Nat} (h:N[i]?=some k):cut (N.flatMap vm) (o+i*8 - o) 4=zc k.1:=by
 have:=zx yo h;rw[Nat.add_sub_cancel_left];unfold cut at *;rw[show (4:Nat)=min 4 8 by decide,← List.take_take,this];rfl
theorem nC {N:List (Nat × Nat)} {o i:Nat} {k:Nat × Nat} (h:N[i]?=some k):cut (N.flatMap vm) (o+i*8+4 - o) 4=zc k.2:=by
 have:=zx yo h;rw[show o+i*8+4 - o=i*8+4 by omega];unfold cut at *;rw[← List.drop_drop];have h2:(List.drop 4 (List.drop (i*8) (N.flatMap vm))).take 4=(List.take 8 (List.drop (i*8) (N.flatMap vm))).drop 4:=by
  rw[List.drop_take]
 rw[h2,this];rfl
theorem te {α:Type} {P:α→Bool} {xs:List α} {i:Nat} {x:α} (hx:xs[i]?=some x) (h:P x=false):xs.all P=false:=by
 rw[List.all_eq_false];exact⟨x,List.mem_of_getElem? hx,by simp[h]⟩
theorem qh {α:Type} {P:α→Bool} {xs:List α} (h:∀ j,j<xs.length→∀ x,xs[j]?=some x→P x=true):xs.all P=true:=by
 rw[List.all_eq_true];intro x hx;obtain⟨j,hj⟩:=List.mem_iff_getElem?.1 hx;exact h j (by rcases Nat.lt_or_ge j xs.length with h1|h1;exact h1;rw[List.getElem?_eq_none h1] at hj;cases hj) x hj
section
variable (p q g h:Nat)
theorem jk (a:Nat) (ha:a<zb) (hp:p<zb) (hq:q<zb):Fn Tryz.prog 77 [yd p q g h,zf a] Tr (Is (.bool (kB p q a))):=by
 have hI:=qa p q g h a ha hp hq;unfold kB;cases e:gIn p q a with
 | false =>
  rw[e] at hI;rw[Bool.false_and];refine Fn.enter Tryz.func77 rfl rfl rfl ?_;intro w hw
  repeat (first|refine Td ?_|(refine Tm ?_;intro _)|refine WO.acall (hc:=hI) (k:=?_)|refine Tc ?_|exact Tz)
 | true =>
  rw[e] at hI;rw[Bool.true_and]
  by_cases h1:a=1
  ·rw[decide_eq_false (by omega:¬ a≠1)];refine Fn.enter Tryz.func77 rfl rfl rfl ?_;intro w hw
   repeat (first|refine Td ?_|(refine Tm ?_;intro _)|refine WO.acall (hc:=hI) (k:=?_)|refine WO.does (zM (cs:=zc 1) rfl rfl (by kernel_rfl)) ?_|refine WO.does z7 ?_|refine Tc ?_|exact Tz)
  ·rw[decide_eq_true (by omega:a≠1)];refine Fn.enter Tryz.func77 rfl rfl rfl ?_;intro w hw
   repeat (first|refine Td ?_|(refine Tm ?_;intro _)|refine WO.acall (hc:=hI) (k:=?_)|refine WO.does (zM (cs:=zc 1) rfl rfl (by kernel_rfl)) ?_|refine WO.does z7 ?_|refine Tc ?_|exact Tz)
theorem qO (f sec:Int) (pt:Option Addr) (c:Nat) (N:List (Nat × Nat)) (hp:p<zb) (hq:q<zb) (hg:g<zb) (hh:h<zb) (hN:vh N) (hNl:N.length≤1099511627776)
  (hf1 : -9223372036854775808≤f) (hf2:f≤9223372036854775807) (hs1 : -9223372036854775808≤sec) (hs2:sec≤9223372036854775807) :
  Fn Tryz.prog 36 [stV p q g h f sec (.slice pt N.length c)] (RdK (.slice pt N.length c) N) (Is (.bool (vT p q g h f sec N))):=by
 by_cases t1:f<0
 ·rw[show vT p q g h f sec N=false by simp[vT];omega];refine Fn.enter Tryz.func36 rfl rfl rfl ?_;intro w hw
  repeat (first|refine Td ?_|(refine Tm ?_;intro _)|refine Tc ?_|exact Tz)
 by_cases t2:2<f
 ·rw[show vT p q g h f sec N=false by simp[vT];omega];refine Fn.enter Tryz.func36 rfl rfl rfl ?_;intro w hw
  repeat (first|refine Td ?_|(refine Tm ?_;intro _)|refine Tc ?_|exact Tz)
 by_cases t3:sec<1
 ·rw[show vT p q g h f sec N=false by simp[vT];omega];refine Fn.enter Tryz.func36 rfl rfl rfl ?_;intro w hw
  repeat (first|refine Td ?_|(refine Tm ?_;intro _)|refine Tc ?_|exact Tz)
 by_cases t4:3<sec
 ·rw[show vT p q g h f sec N=false by simp[vT];omega];refine Fn.enter Tryz.func36 rfl rfl rfl ?_;intro w hw
  repeat (first|refine Td ?_|(refine Tm ?_;intro _)|refine Tc ?_|exact Tz)
 by_cases t4' : f+1<sec
 ·rw[show vT p q g h f sec N=false by simp[vT];omega];refine Fn.enter Tryz.func36 rfl rfl rfl ?_;intro w hw
  repeat (first|refine Td ?_|(refine Tm ?_;intro _)|refine Tc ?_|exact Tz)
 by_cases t5:(N.length:Int)<3*f+1
 ·rw[show vT p q g h f sec N=false by simp[vT];omega];refine Fn.enter Tryz.func36 rfl rfl rfl ?_;intro w hw
  repeat (first|refine Td ?_|(refine Tm ?_;intro _)|refine Tc ?_|exact Tz)
 by_cases t6:7<(N.length:Int)
 ·rw[show vT p q g h f sec N=false by simp[vT];omega];refine Fn.enter Tryz.func36 rfl rfl rfl ?_;intro w hw
  repeat (first|refine Td ?_|(refine Tm ?_;intro _)|refine Tc ?_|exact Tz)
 obtain⟨m,hm⟩ : ∃ m:Nat,(m:Int)=(N.length:Int)+sec:=⟨((N.length:Int)+sec).toNat,by omega⟩;have hadd:IntKind.i64.wrap ((N.length:Int)+sec)=(m:Int):=zl (by omega) (by omega) (by omega);have hcv:IntKind.u64.wrap (m:Int)=(m:Int):=u64_in (by omega) (by omega);have hSB:vT p q g h f sec N=(decide (m<q) && (kB p q g && kB p q h) && N.all (fun k=>kB p q k.1 && kB p q k.2)):=by
  have e1:decide ((N.length:Int)+sec<(q:Int))=decide (m<q):=by rw[← hm];simp
  unfold vT;rw[e1,decide_eq_true (by omega:0≤f),decide_eq_true (by omega:f≤2),decide_eq_true (by omega:1≤sec),decide_eq_true (by omega:sec≤3),decide_eq_true (by omega:sec≤f+1),decide_eq_true (by omega:3*f+1≤(N.length:Int)),decide_eq_true (by omega:(N.length:Int)≤7)];simp only[Bool.true_and,Bool.and_assoc]
 rw[hSB];clear hSB;have hwp:=rI hq;have hm32:m<18446744073709551616:=by omega
 by_cases t7:m<q
 ·rw[decide_eq_true t7,Bool.true_and];have hK1:=jk p q g h g hg hp hq;have hK2:=jk p q g h h hh hp hq;have hKs:=fun a (ha:a<zb)=>jk p q g h a ha hp hq;refine Fn.enter Tryz.func36 rfl rfl rfl ?_;intro w hw;obtain⟨pt',c',e,hpc⟩:=hw;cases e
  rcases hpc with ⟨_,h0⟩|⟨b,o,rfl,hs⟩
  ·rw[h0] at t5;simp at t5;omega
  refine WC.seq ?_
  repeat (first|refine Tf ?_|(refine Tm ?_;intro _)|refine Tc ?_|exact Tz)
  refine WX.seq ?_;refine WC.seq ?_
  repeat (first|refine Tf ?_|(refine Tm ?_;intro _)|refine Tc ?_|exact Tz)
  refine WX.seq ?_;refine WC.seq ?_;refine WC.seq ?_
  repeat (first|refine Tf ?_|(refine Tm ?_;intro _)|refine Tc ?_|exact Tz)
  refine WX.seq ?_
  repeat (first|refine Tf ?_|(refine Tm ?_;intro _)|refine Tc ?_|exact Tz)
  refine WX.seq ?_;refine WC.seq ?_
  repeat (first|refine Tf ?_|(refine Tm ?_;intro _)|refine Tc ?_|exact Tz)
  rename_i g1 g4;refine WX.seq ?_;refine WC.joinI (σ:=Unit) (fun _=>True) (fun _=>[(1,pt g1),(2,.bool false),(3,.int .i64 (N.length:Int))]) (fun _=>[⟨g1,29,stC p q g h f sec (.slice (some ⟨b,o,none⟩) N.length c)⟩]) ?_ (fun _ hTr=>?_)
  ·clear hK1 hK2 hKs
   by_cases w1:wd 1 q=0
   ·have d1:((wd 1 q:Nat):Int)=0:=by omega
    by_cases w2:wd 2 q=0
    ·have d2:((wd 2 q:Nat):Int)=0:=by omega
     by_cases w3:wd 3 q=0
     ·have d3:((wd 3 q:Nat):Int)=0:=by omega
      have w0:wd 0 q=q:=aaw (hwp.2 ⟨w1,w2,w3⟩);have d0:¬ ((wd 0 q:Nat):Int)≤(m:Int):=by omega
      clear w1 w2 w3 w0 hwp
      repeat (first|refine Td ?_|(refine Tm ?_;intro _)|refine WO.does (zh rfl rfl hadd) ?_|refine WO.does (zu rfl hcv) ?_|refine Tc ?_|exact Tz)
      exact WX.metI () (hs:=trivial)
     ·have d3:¬ ((wd 3 q:Nat):Int)=0:=by omega
      repeat (first|refine Td ?_|(refine Tm ?_;intro _)|refine Tc ?_|exact Tz)
      exact WX.metI () (hs:=trivial)
    ·have d2:¬ ((wd 2 q:Nat):Int)=0:=by omega
     repeat (first|refine Td ?_|(refine Tm ?_;intro _)|refine Tc ?_|exact Tz)
     exact WX.metI () (hs:=trivial)
   ·have d1:¬ ((wd 1 q:Nat):Int)=0:=by omega
    repeat (first|refine Td ?_|(refine Tm ?_;intro _)|refine Tc ?_|exact Tz)
    exact WX.metI () (hs:=trivial)
  clear hTr hadd hcv hm hwp hm32 t7 m;cases e1:kB p q g with
  | false =>
   rw[e1] at hK1;rw[Bool.false_and,Bool.false_and]
   repeat (first|refine Ta ?_|(refine Tm ?_;intro _)|refine WO.acall (hc:=hK1) (k:=?_)|refine Tc ?_|exact Tz)
  | true =>
  rw[e1] at hK1;cases e2:kB p q h with
  | false =>
   rw[e2] at hK2;rw[Bool.and_false,Bool.false_and]
   repeat (first|refine Ta ?_|(refine Tm ?_;intro _)|refine WO.acall (hc:=hK1) (k:=?_)|refine WO.acall (hc:=hK2) (k:=?_)|refine Tc ?_|exact Tz)
  | true =>
  rw[e2] at hK2;rw[Bool.true_and,Bool.true_and]
  repeat (first|refine Ta ?_|(refine Tm ?_;intro _)|refine WO.acall (hc:=hK1) (k:=?_)|refine WO.acall (hc:=hK2) (k:=?_)|refine Tc ?_|exact Tz)
  refine WC.loopI (σ:=Nat) (fun i=>i≤N.length∧∀ j,j<i→∀ x,N[j]?=some x→(kB p q x.1 && kB p q x.2)=true) (fun i=>[(1,pt g1),(2,.bool false),(3,.int .i64 (N.length:Int)),(5,.int .i64 (i:Int))]) (fun _=>[⟨g1,29,stC p q g h f sec (.slice (some ⟨b,o,none⟩) N.length c)⟩]) (fun i=>N.length - i) 0 (fun i hi=>?_) ⟨Nat.zero_le _,fun j hj=>by omega⟩
  try dsimp only at hi ⊢
  obtain⟨hi,h0⟩:=hi
  by_cases hlt:i<N.length
  ·obtain⟨k,hx⟩ : ∃ k,N[i]?=some k:=⟨_,List.getElem?_eq_getElem hlt⟩;have hkb:=hN k (List.mem_of_getElem? hx);have hk1:=hKs k.1 hkb.1;have hk2:=hKs k.2 hkb.2;clear hK1 hK2 hKs;cases q1:kB p q k.1 with
   | false =>
    rw[te (P:=fun k=>kB p q k.1 && kB p q k.2) hx (by simp[q1])];rw[q1] at hk1
    repeat (first|refine Tw ?_|(refine Tm ?_;intro _)|exact Tz)
    refine WC.dT rfl (by omega) ?_
    repeat (first|refine Tw ?_|(refine Tm ?_;intro _)|exact Tz)
    refine WC.adraw 22 (k:=?_)
    iterate 22 (first|refine Da ?_|refine DQ.does (fun s _=>za (o':=o+i*8) rfl rfl hlt rfl) Dp.const ?_|refine DQ.does (fun s _=>zk (vs:=zc k.1) (hs:=hs) (hle:=by omega) (hc:=nF hx)) Dp.const ?_|refine DQ.does (fun s _=>zk (vs:=zc k.2) (hs:=hs) (hle:=by omega) (hc:=nC hx)) Dp.const ?_|refine DQ.acall (hc:=hk1) (k:=?_)|refine DQ.acall (hc:=hk2) (k:=?_)|refine Dc ?_)
    refine DQ.anil (k:=?_);intro sx _
    repeat (first|refine Tw ?_|(refine Tm ?_;intro _)|exact Tz)
   | true =>
    rw[q1] at hk1;cases q2:kB p q k.2 with
    | false =>
     rw[te (P:=fun k=>kB p q k.1 && kB p q k.2) hx (by simp[q2])];rw[q2] at hk2
     repeat (first|refine Tw ?_|(refine Tm ?_;intro _)|exact Tz)
     refine WC.dT rfl (by omega) ?_
     repeat (first|refine Tw ?_|(refine Tm ?_;intro _)|exact Tz)
     refine WC.adraw 22 (k:=?_)
     iterate 22 (first|refine Da ?_|refine DQ.does (fun s _=>za (o':=o+i*8) rfl rfl hlt rfl) Dp.const ?_|refine DQ.does (fun s _=>zk (vs:=zc k.1) (hs:=hs) (hle:=by omega) (hc:=nF hx)) Dp.const ?_|refine DQ.does (fun s _=>zk (vs:=zc k.2) (hs:=hs) (hle:=by omega) (hc:=nC hx)) Dp.const ?_|refine DQ.acall (hc:=hk1) (k:=?_)|refine DQ.acall (hc:=hk2) (k:=?_)|refine Dc ?_)
     refine DQ.anil (k:=?_);intro sx _
     repeat (first|refine Tw ?_|(refine Tm ?_;intro _)|exact Tz)
    | true =>
     rw[q2] at hk2
     repeat (first|refine Tw ?_|(refine Tm ?_;intro _)|exact Tz)
     refine WC.dT rfl (by omega) ?_
     repeat (first|refine Tw ?_|(refine Tm ?_;intro _)|exact Tz)
     refine WC.adraw 22 (k:=?_)
     iterate 22 (first|refine Da ?_|refine DQ.does (fun s _=>za (o':=o+i*8) rfl rfl hlt rfl) Dp.const ?_|refine DQ.does (fun s _=>zk (vs:=zc k.1) (hs:=hs) (hle:=by omega) (hc:=nF hx)) Dp.const ?_|refine DQ.does (fun s _=>zk (vs:=zc k.2) (hs:=hs) (hle:=by omega) (hc:=nC hx)) Dp.const ?_|refine DQ.acall (hc:=hk1) (k:=?_)|refine DQ.acall (hc:=hk2) (k:=?_)|refine Dc ?_)
     refine DQ.anil (k:=?_);intro sx _
     repeat (first|refine Tw ?_|(refine Tm ?_;intro _)|exact Tz)
     refine WX.metI (i+1) (hs:=⟨⟨by show i+1≤N.length;omega,fun j hj y hy=>by
      rcases Nat.lt_or_ge j i with h|h
      ·exact h0 j h y hy
      ·have:j=i:=by omega
       subst this;rw[hx] at hy;cases hy;rw[q1,q2];rfl⟩,by show N.length - (i+1)<N.length - i;omega⟩)
  ·have hi2:i=N.length:=by omega
   rw[qh (xs:=N) (P:=fun k=>kB p q k.1 && kB p q k.2) (by rw[← hi2];exact h0)]
   repeat (first|refine Tw ?_|(refine Tm ?_;intro _)|exact Tz)
   refine WC.dF rfl (by omega) ?_
   repeat (first|refine Tw ?_|(refine Tm ?_;intro _)|exact Tz)
 ·rw[decide_eq_false t7,Bool.false_and,Bool.false_and];obtain⟨w1,w2,w3⟩:=hwp.1 (by omega);have w0:wd 0 q=q:=aaw (by omega);have d1:((wd 1 q:Nat):Int)=0:=by omega
  have d2:((wd 2 q:Nat):Int)=0:=by omega
  have d3:((wd 3 q:Nat):Int)=0:=by omega
  have d0:((wd 0 q:Nat):Int)≤(m:Int):=by omega
  clear w1 w2 w3 w0 hwp;refine Fn.enter Tryz.func36 rfl rfl rfl ?_;intro w hw
  repeat (first|refine Td ?_|(refine Tm ?_;intro _)|refine WO.does (zh rfl rfl hadd) ?_|refine WO.does (zu rfl hcv) ?_|refine Tc ?_|exact Tz)
end
end Sx
end
end Go.Proofs.YtbbppkkhidkjpaaGreatDoor
