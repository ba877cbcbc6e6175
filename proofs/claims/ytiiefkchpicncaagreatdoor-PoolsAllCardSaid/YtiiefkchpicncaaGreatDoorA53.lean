/- Part 53 of the proof. -/
import Derived.Test.YtiiefkchpicncaaGreatDoorA52
import Derived.Test.YtiiefkchpicncaaGreatDoorA51
set_option linter.unusedSimpArgs false
set_option linter.unusedVariables false
namespace Go.Proofs.YtiiefkchpicncaaGreatDoor
section
open Go Go.RowKit Go.BigFrame
namespace Sx
attribute [local irreducible] DQ WC WO WT WX y9 wd
end Sx
end
section
open Go Go.RowKit Go.BigFrame Go.WideShapes
namespace Sx
section
variable {H:Type} {enc:TypeId × Value→H} {w:World} {base:Nat} {spare:Nat→Bool} {held:Bool} {fuel:Nat} {cs:List Value} {x:DataW H × List MemPlace}
theorem acW (h:DataW.trod enc Tryz.prog w base spare held fuel 30 cs=some x):∃ pt l c,cs=[.slice pt (List.length l) c]∧(∀ a∈l,afp w a)∧RdE dqF (.slice pt l.length c) l w :=
 qW Tryz.underlying30 afr (by decide) (fun _=>rfl) (fun _ _ _ h=>by
  obtain⟨d,pt,P,c,h1,h2,h3,h4⟩:=afH h;exact⟨⟨d,pt,P,c⟩,⟨h1,h2,h4⟩,h3⟩) h
theorem jF {P:Program} {w:World} {r:Reach} {b0:Nat} {t:TypeId} {v:Value} (ht:P.underlying t=some (.int .u64)) (h:Value.okWide P w r b0 t v):∃ n:Nat,n<18446744073709551616∧v=.int .u64 (n:Int):=by
 obtain⟨n,rfl⟩:=okWide_int ht h;simp only[Value.okWide,ht,Cell.okWide,Cell.ok] at h;obtain⟨_,h1,h2⟩:=h;have e1:IntKind.u64.min=0:=rfl;have e2:IntKind.u64.max=18446744073709551615:=rfl;rw[e1] at h1;rw[e2] at h2;exact⟨n.toNat,by omega,by rw[Int.toNat_of_nonneg h1]⟩
end
end Sx
end
end Go.Proofs.YtiiefkchpicncaaGreatDoor
namespace Go.Proofs.YtiiefkchpicncaaGreatDoor.Ou
section
open Go Go.RowKit Go.BigFrame Go.ChangeShapes Go.WideShapes Go.ChangeAt Sx
theorem cI:Tryz.prog.readableRec 29=true:=by kernel_rfl
theorem acx:Tryz.prog.readableRec 22=true:=by kernel_rfl
theorem dI:Tryz.prog.readableRec 30=true:=by kernel_rfl
theorem it:Tryz.prog.cellTypes Tryz.prog.depth 29=some (List.replicate 20 22++[3,3,27]):=by kernel_rfl
end
end Go.Proofs.YtiiefkchpicncaaGreatDoor.Ou
