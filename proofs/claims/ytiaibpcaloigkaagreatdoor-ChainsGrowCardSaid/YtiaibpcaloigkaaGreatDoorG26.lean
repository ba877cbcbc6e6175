/- Part 26 of the proof. -/
import Derived.Test.YtiaibpcaloigkaaGreatDoorG24
import Derived.Test.YtiaibpcaloigkaaGreatDoorG23
set_option linter.unusedSimpArgs false
set_option linter.unusedVariables false
namespace Go.Proofs.YtiaibpcaloigkaaGreatDoor
section
open Go Go.RowKit Go.BigFrame
namespace Sx
attribute [local irreducible] DQ WC WO WX wd
abbrev pfC (k:Nat × Nat):List Value:=vC k.1 k.2
theorem pR (k:Nat × Nat):(pfC k).length=8:=rfl
set_option maxHeartbeats 2000000
theorem eX {α:Type} {f:α→List Value} {k:Nat} (hk:∀ x,(f x).length=k) {xs:List α} {r:LV} {i:Nat} {x:α} (h:xs[i]?=some x):cut (xs.flatMap f++r) (i*k) k=f x:=by
 have hi:i<xs.length:=by
  rcases Nat.lt_or_ge i xs.length with h1|h1
  ·exact h1
  ·rw[List.getElem?_eq_none h1] at h;cases h
 have h1:=zL hk h;have hl:=zF hk xs;have h2:i*k+k≤xs.length*k:=by rw[← Nat.succ_mul];exact Nat.mul_le_mul_right _ hi
 unfold cut at *;rw[List.drop_append,List.take_append,List.length_drop];rw[h1,show k - ((xs.flatMap f).length - i*k)=0 by omega];simp
set_option maxHeartbeats 2000000
end Sx
end
end Go.Proofs.YtiaibpcaloigkaaGreatDoor
