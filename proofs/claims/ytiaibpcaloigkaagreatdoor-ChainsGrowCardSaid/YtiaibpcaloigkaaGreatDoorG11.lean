/- Part 11 of the proof. -/
import Derived.Test.YtiaibpcaloigkaaGreatDoorG10
import Derived.Test.YtiaibpcaloigkaaGreatDoorG06
set_option linter.unusedSimpArgs false
set_option linter.unusedVariables false
set_option maxHeartbeats 8000000
namespace Go.Proofs.YtiaibpcaloigkaaGreatDoor
section
open Go Go.RowKit Go.BigFrame
namespace Sx
attribute [local irreducible] DQ WC WO WX
theorem ahJ (n:Nat) (h:n<18446744073709551616:=by omega):Fn Tryz.prog 63 [.int .u64 (n:Int)] Tr (Is (zk n)):=by
 rw[← sF n h];refine Fn.enter Tryz.func63 rfl rfl rfl ?_;intro w hw
 repeat (first|refine Tk ?_|intro _|exact Tz)
 done
attribute [local irreducible] wd
theorem ad0 (a b:Nat) (ha:a<ze) (hb:b<ze):Fn Tryz.prog 65 [zk a,zk b] Tr (Is (.tuple #[zk ((a+ze - b)%ze),.int .u64 ((bw a b 0:Nat):Int)])):=by
 have hs:=bf a b ha hb (sb a b 0) (sb a b 1) (sb a b 2) (sb a b 3) (br a b 1) (br a b 2) (br a b 3) (br a b 4) rfl rfl rfl rfl rfl rfl rfl rfl;have hN:=jy hs.1 (fun i=>Nat.mod_lt _ Dtt);rw[← hs.2];generalize (a+ze - b)%ze=s at *;refine Fn.enter Tryz.func65 rfl rfl rfl ?_;intro w hw
 repeat (first|refine Tw ?_|refine Tm fun _=>?_|exact Tz)
 rename_i gA gB gR;refine WC.loopI (σ:=Nat) (fun k=>k≤4) (fun k=>[(2,Sx.pt gA),(3,Sx.pt gB),(4,Sx.pt gR),(5,.int .u64 ((br a b k:Nat):Int)),(7,.int .i64 (k:Int))]) (fun k=>[⟨gR,24,acb (sb a b) k⟩,⟨gB,24,zc b⟩,⟨gA,24,zc a⟩]) (fun k=>4 - k) 0 (fun k hk=>?_) (Nat.zero_le _)
 try dsimp only at hk ⊢
 by_cases hlt:k<4
 ·have hcy:=ag2 a b k;have hadd2:IntKind.i64.wrap ((k:Int)+1)=((k+1:Nat):Int):=zl Om Om Om;have hE:=fun w=>bB (wd k a) (wd k b) (br a b k) hcy w
  repeat (first|refine Tw ?_|refine Tm fun _=>?_|exact Tz)
  refine WC.dT rfl Om ?_
  repeat (first|refine Tw ?_|refine Tm fun _=>?_|exact Tz)
  refine WC.adrawF [11] 13 (k:=?_)
  iterate 2 refine Dx ?_
  refine Dx ?_;refine DQ.does (fun s _=>zx (hc:=vq a hlt)) Dp.const ?_;refine Dx ?_;refine Dx ?_;refine DQ.does (fun s _=>zx (hc:=vq b hlt)) Dp.const ?_;refine Dx ?_;refine DQ.does (fun s _=>re hE rfl) Dp.const ?_
  repeat (first|refine Da ?_|refine Df ?_)
  refine DQ.anil (k:=?_);intro sx _
  repeat (first|refine WO.stores (zo (vs:=[.int .u64 ((sb a b k:Nat):Int)]) (cs':=acb (sb a b) (k+1)) (hc:=jN (sb a b) hlt) (hle:=by rw[j0,Nat.ble_eq];show k+1≤4;omega)) ?_|refine WO.does (zi rfl rfl hadd2) ?_|refine Ta ?_|refine Tm fun _=>?_|refine Tc ?_|exact Tz)
  exact WX.metI (k+1) (hs:=⟨by show k+1≤4;omega,by show 4 - (k+1)<4 - k;omega⟩)
 ·obtain rfl:k=4:=by omega
  rw[hN]
  repeat (first|refine Tw ?_|refine Tm fun _=>?_|exact Tz)
  done
theorem ahm (a b:Nat) (ha:a<ze) (hb:b<ze):Fn Tryz.prog 28 [zk a,zk b] Tr (Is (.int .i64 (td a b))):=by
 have hS:=ad0 a b ha hb
 by_cases hab:a=b
 ·rw[show td a b=0 by simp[td,hab]];refine Fn.enter Tryz.func28 rfl rfl rfl ?_;intro w hw
  repeat (first|refine Tw ?_|refine Tm fun _=>?_|exact Tz)
  refine WC.dT rfl hab ?_
  repeat (first|refine Tw ?_|refine Tm fun _=>?_|exact Tz)
  done
 ·have hd:decide (a=b)=false:=decide_eq_false hab
  by_cases hlt:a<b
  ·rw[show td a b = -1 by simp[td,hab,hlt]];rw[show bw a b 0=1 by simp[bw,hlt]] at hS;refine Fn.enter Tryz.func28 rfl rfl rfl ?_;intro w hw
   repeat (first|refine Tw ?_|refine Tm fun _=>?_|exact Tz)
   refine WC.dF rfl hab ?_
   repeat (first|refine Ta ?_|refine Tm fun _=>?_|refine WO.acall (hc:=hS) (k:=?_)|refine Tc ?_|exact Tz)
   done
  ·rw[show td a b=1 by simp[td,hab,hlt]];rw[show bw a b 0=0 by simp[bw,hlt]] at hS;refine Fn.enter Tryz.func28 rfl rfl rfl ?_;intro w hw
   repeat (first|refine Tw ?_|refine Tm fun _=>?_|exact Tz)
   refine WC.dF rfl hab ?_
   repeat (first|refine Ta ?_|refine Tm fun _=>?_|refine WO.acall (hc:=hS) (k:=?_)|refine Tc ?_|exact Tz)
   done
theorem aao {a k:Nat} (hx:wd k a=0) (hz:∀ j,k<j→j<4→wd j a=0) (j:Nat) (h1:k≤j) (h2:j<4):wd j a=0:=by
 rcases Nat.lt_or_eq_of_le h1 with h|h
 ·exact hz j h h2
 ·subst h;exact hx
theorem adl (x:Nat) (h:x<18446744073709551616):Fn Tryz.prog 181 [.int .u64 (x:Int)] Tr (Is (.int .i64 (zJ x:Nat))):=.of fun w=>(Tryz.bits_Len64 x w Om Om).mono fun e w' ⟨h1,h2⟩=>by
 subst h2;rw[← bitLen_eq h];exact⟨h1,Below.refl _ _⟩
theorem jG (a:Nat) (ha:a<ze):Fn Tryz.prog 131 [zk a] Tr (Is (.int .i64 (zJ a:Nat))):=by
 refine Fn.enter Tryz.func131 rfl rfl rfl ?_;intro w hw
 repeat (first|refine Tw ?_|refine Tm fun _=>?_|exact Tz)
 rename_i gA;refine WC.loopI (σ:=Nat) (fun k=>k≤4∧∀ j,k≤j→j<4→wd j a=0) (fun k=>[(1,Sx.pt gA),(2,.int .i64 0),(3,.int .i64 ((k:Int) - 1))]) (fun _=>[⟨gA,24,zc a⟩]) (fun k=>k) 4 (fun k hk=>?_) ⟨by decide,fun j h1 h2=>by omega⟩;obtain⟨hk,hz⟩:=hk
 rcases k with _|k
 ·have hres:=mT ha (fun j hj=>hz j (Nat.zero_le _) hj);subst hres
  repeat (first|refine WO.does (zY rfl rfl Dtt) ?_|refine Ta ?_|refine Tm fun _=>?_|refine Tc ?_|exact Tz)
  done
 ·try dsimp only
  rw[show (((k+1:Nat):Int) - 1)=(k:Int) by omega];have hg:=vq a (k:=k) Om
  repeat (first|refine WO.does (yP rfl rfl Om) ?_|refine WO.does (zx (hc:=hg)) ?_|refine Ta ?_|refine Tm fun _=>?_|refine Tc ?_|exact Tz)
  by_cases hx:wd k a=0
  ·refine WC.dF rfl Om ?_;have hs:IntKind.i64.wrap ((k:Int) - 1)=(k:Int) - 1:=zl Om Om Om
   repeat (first|refine WO.does (zG rfl rfl hs) ?_|refine Ta ?_|refine Tm fun _=>?_|refine Tc ?_|exact Tz)
   exact WX.metI k (hs:=⟨⟨by omega,fun j h1 h2=>aao hx hz j h1 h2⟩,by omega⟩)
  ·refine WC.dT rfl Om ?_;have hres:=pd ha (i:=k) Om (fun j h1 h2=>hz j h1 h2) hx;have hL:=adl (wd k a) (yd k a);have hlb:=vd (k:=64) (yd k a);rw[hres];have hm:IntKind.i64.wrap (64*(k:Int))=((64*k:Nat):Int):=zl Om Om Om;have hd:IntKind.i64.wrap (((64*k:Nat):Int)+(zJ (wd k a):Nat))=((64*k+zJ (wd k a):Nat):Int):=zl Om Om Om
   repeat (first|refine WO.does (ym rfl rfl hm) ?_|refine WO.does (zx (hc:=hg)) ?_|refine WO.does (zi rfl rfl hd) ?_|refine Ta ?_|refine Tm fun _=>?_|refine WO.acall (hc:=hL) (k:=?_)|refine Tc ?_|exact Tz)
   done
theorem aei (a n:Nat) (ha:a<ze) (h1:n≤1000000):Fn Tryz.prog 182 [zk a,.int .i64 (n:Int)] Tr (Is (.int .u64 (vZ a n:Nat))):=by
 by_cases h:n<256
 ·have hq:n / 64<4:=by omega
  have hb:=iC ha (n / 64) (n%64) hq (Nat.mod_lt _ Om);rw[show 64*(n / 64)+n%64=n by omega] at hb;rw[← hb];have hw2:wd (n / 64) a / 2 ^ (n%64)<18446744073709551616:=Nat.lt_of_le_of_lt (Nat.div_le_self _ _) (yd (n / 64) a);have ho:=and_one _ hw2;have hqt:IntKind.i64.wrap ((n:Int).tdiv 64)=((n / 64:Nat):Int):=by
   rw[show ((n:Int).tdiv 64)=((n / 64:Nat):Int) from rfl];exact zl Om Om Om
  have hr:(n:Int).tmod 64=((n%64:Nat):Int):=rfl;refine Fn.enter Tryz.func182 rfl rfl rfl ?_;intro w hw
  repeat (first|refine Tw ?_|refine Tm fun _=>?_|exact Tz)
  refine WC.dF rfl Om ?_
  repeat (first|refine WO.does (ud rfl rfl Dtt hqt) ?_|refine WO.does (zx (hc:=vq a hq)) ?_|refine WO.does (yK rfl rfl Dtt hr) ?_|refine WO.does (vo rfl rfl Om (u5 (by show n%64≤64;omega))) ?_|refine WO.does (tY rfl rfl ho) ?_|refine Ta ?_|refine Tm fun _=>?_|refine Tc ?_|exact Tz)
  done
 ·rw[cI ha (i:=n) Om];refine Fn.enter Tryz.func182 rfl rfl rfl ?_;intro w hw
  repeat (first|refine Tw ?_|refine Tm fun _=>?_|exact Tz)
  refine WC.dT rfl Om ?_
  repeat (first|refine Tw ?_|refine Tm fun _=>?_|exact Tz)
  done
theorem bu (a b:Nat) (ha:a<18446744073709551616) (hb:b<18446744073709551616):Fn Tryz.prog 183 [.int .u64 (a:Int),.int .u64 (b:Int)] Tr (Is (.tuple #[.int .u64 ((a*b / 18446744073709551616:Nat):Int),.int .u64 ((a*b%18446744073709551616:Nat):Int)])):=.of fun w=>(Tryz.bits_Mul64 a b ha hb w).mono fun e w' ⟨h1,h2⟩=>by
 subst h2;exact⟨h1,Below.refl _ _⟩
theorem ae5 (a b c d:Nat) (ha:a<18446744073709551616) (hb:b<18446744073709551616) (hc:c<18446744073709551616) (hd:d<18446744073709551616) :
  Fn Tryz.prog 222 [.int .u64 (a:Int),.int .u64 (b:Int),.int .u64 (c:Int),.int .u64 (d:Int)] Tr (Is (.tuple #[.int .u64 (((a*b+c+d)%18446744073709551616:Nat):Int),.int .u64 (((a*b+c+d) / 18446744073709551616:Nat):Int)])):=by
 have hM:=bu a b ha hb;obtain⟨h1,h2,h3,h4,h5,e1,e2⟩:=kb a b c d ha hb hc hd;rw[e1,e2];clear e1 e2;generalize a*b / 18446744073709551616=H at *;generalize a*b%18446744073709551616=L at *;have A1:=fun w=>tS L c 0 Om w;rw[Nat.add_zero] at A1;generalize (L+c)%18446744073709551616=S1 at *;generalize (L+c) / 18446744073709551616=C1 at *;have A2:=fun w=>tS S1 d 0 Om w;rw[Nat.add_zero] at A2;generalize (S1+d)%18446744073709551616=S2 at *;generalize (S1+d) / 18446744073709551616=C2 at *;have d1:IntKind.u64.wrap ((H:Int)+(C1:Int))=((H+C1:Nat):Int):=by rw[← Int.natCast_add];exact u64_in Om Om
 have d2:IntKind.u64.wrap (((H+C1:Nat):Int)+(C2:Int))=((H+C1+C2:Nat):Int):=by rw[← Int.natCast_add];exact u64_in Om Om
 refine Fn.enter Tryz.func222 rfl rfl rfl ?_;intro w hw
 repeat (first|refine Ta ?_|refine Tm fun _=>?_|refine WO.acall (hc:=hM) (k:=?_)|refine Tc ?_|exact Tz)
 refine WO.does (re A1 rfl) ?_
 repeat (first|refine WO.does (zi rfl rfl d1) ?_|refine Ta ?_|refine Tm fun _=>?_|refine Tc ?_|exact Tz)
 refine WO.does (re A2 rfl) ?_
 repeat (first|refine WO.does (zi rfl rfl d2) ?_|refine Ta ?_|refine Tm fun _=>?_|refine Tc ?_|exact Tz)
 done
end Sx
end
end Go.Proofs.YtiaibpcaloigkaaGreatDoor
