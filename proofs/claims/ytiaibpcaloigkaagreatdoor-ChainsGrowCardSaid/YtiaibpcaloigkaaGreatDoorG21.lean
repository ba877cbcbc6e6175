/- Part 21 of the proof. -/
import Derived.Test.YtiaibpcaloigkaaGreatDoorG16
import Derived.Test.YtiaibpcaloigkaaGreatDoorG20
set_option linter.unusedSimpArgs false
set_option linter.unusedVariables false
namespace Go.Proofs.YtiaibpcaloigkaaGreatDoor
section
open Go Go.RowKit
namespace Sx
attribute [local irreducible] DQ WC WO WX wd
theorem getD_set_ne {l:LN} {i j v:Nat} (h:i≠j):(l.set i v).getD j 0=l.getD j 0:=by simp[List.getD,List.getElem?_set_ne h]
theorem fm {a:Nat} (ha:a<ze):a<18446744073709551616↔wd 1 a=0∧wd 2 a=0∧wd 3 a=0:=by
 unfold ze at ha;simp only[wd];omega
end Sx
end
section
open Go Go.RowKit
namespace Sx
attribute [local irreducible] DQ WC WO WX
theorem rT (a i:Nat):vZ a i≤1:=by unfold vZ;omega
end Sx
end
section
open Go Go.RowKit
namespace Sx
attribute [local irreducible] DQ DQS WC WO WX
end Sx
end
section
open Go Go.RowKit
namespace Sx
attribute [local irreducible] DQ WC WO WX
theorem ad9 {x r:Nat} (h:r<64):x%18446744073709551616 / 2 ^ r%2=x / 2 ^ r%2:=by
 rw[show 18446744073709551616=2 ^ r*2 ^ (64 - r) by rw[← Nat.pow_add,show r+(64 - r)=64 by omega],Nat.mod_mul_right_div_self];refine Nat.mod_mod_of_dvd _ ?_;exact⟨2 ^ (63 - r),by rw[show 64 - r=(63 - r)+1 by omega,Nat.pow_succ,Nat.mul_comm]⟩
theorem iC {n i:Nat} (h:i<256):wd (i / 64) n / 2 ^ (i%64)%2=vZ n i:=by
 have e:wd (i / 64) n=n / 2 ^ (64*(i / 64))%18446744073709551616:=by
  have hk:i / 64<4:=by omega
  generalize i / 64=k at *
  match k,hk with
  | 0,_|1,_|2,_|3,_=>simp[wd]
  | k+4,h=>omega
 rw[e,ad9 (Nat.mod_lt _ Dtt),Nat.div_div_eq_div_mul,← Nat.pow_add,show 64*(i / 64)+i%64=i by omega];rfl
theorem and_one (x:Nat) (h:x<18446744073709551616):IntKind.u64.wrap (((BitVec.ofInt IntKind.u64.bits ((x:Nat):Int) &&& BitVec.ofInt IntKind.u64.bits (1:Int)).toNat:Nat):Int)=((x%2:Nat):Int):=by
 have e:(BitVec.ofInt IntKind.u64.bits ((x:Nat):Int) &&& BitVec.ofInt IntKind.u64.bits (1:Int)).toNat=x%2:=by
  rw[BitVec.toNat_and,BitVec.toNat_ofInt,BitVec.toNat_ofInt];have e1:(((x:Nat):Int)%((2 ^ IntKind.u64.bits:Nat):Int)).toNat=x:=by show (((x:Nat):Int)%18446744073709551616).toNat=x;omega
  have e2:((1:Int)%((2 ^ IntKind.u64.bits:Nat):Int)).toNat=1:=by decide
  rw[e1,e2,Nat.and_one_is_mod]
 rw[e];exact u64_in Om Om
end Sx
end
end Go.Proofs.YtiaibpcaloigkaaGreatDoor
