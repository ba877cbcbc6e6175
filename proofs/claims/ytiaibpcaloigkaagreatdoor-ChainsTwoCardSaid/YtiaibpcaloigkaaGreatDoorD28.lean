/- Part 28 of the proof. -/
import Derived.Test.YtiaibpcaloigkaaGreatDoorD03
import Derived.OrdersHeld
set_option linter.unusedSimpArgs false
set_option linter.unusedVariables false
namespace Go.Proofs.YtiaibpcaloigkaaGreatDoor
section
open Go Go.RowKit Go.BigFrame
namespace Sx
open Kp
def afR (ops:List Oper) (fl:LN) (listed:Array Bool) (f:Nat):Bool:=(List.range ops.length).all fun t=>fl.contains t || !listed.getD t false || match ops[t]? with
 | some o=>o.after.all fun e=>!(Region.binds .any e && e.on == f)
 | none=>true
def Sp (ops:List Oper) (fl:LN) (Hf:Nat→World→Prop) (listed:Array Bool) (w:World):Prop:=∀ f,fl.contains f=true→afR ops fl listed f=true→Hf f w
section
variable (P:Program) (ops:List Oper) (fl:LN) (Hf:Nat→World→Prop) (w0:World)
def agd (k:Kind) (i:Nat) (o:Oper) (a:Act) (F:Nat→World→Prop):Prop :=
 match k with
 | .skip=>Region.wanted o (yielded ops.toArray a.tmps)=false
 | .val v=>Region.wanted o (yielded ops.toArray a.tmps)=true∧((∀ w,Hf i w→(execOp a.eval o).run P w=.ok (.value v) w)∨(fl.contains i=false ∧
   ∀ w,Below w0.heap.size w0 w→(∀ j,anc ops i j=true→F j w)→kyp P o a w (fun u w'=>u=v∧Below w.heap.size w w')))
 | .rel v S V A=>fl.contains i=false∧Region.wanted o (yielded ops.toArray a.tmps)=true∧(∃ x,S x)∧(∀ x w w',V x w→Below w.heap.size w w'→V x w') ∧
   ∀ w,Below w0.heap.size w0 w→(∀ j,anc ops i j=true→F j w)→kyp P o a w (fun u w'=>∃ x,u=v x∧S x∧V x w'∧Below w.heap.size w w'∧∀ g∈A x,w.heap.size≤g∧g<w'.heap.size)
variable (K:Nat→zQ→Kind)
def aa0 (Fin:Act→(Nat→World→Prop)→List (List Nat)→Prop) (s:zQ):List Oper→Nat→Act→(Nat→World→Prop)→List (List Nat)→Prop
 | [],_,a,F,G=>Fin a F G
 | o::l,i,a,F,G=>agd P ops fl Hf w0 (K i s) i o a F∧(lw (K i s) (s i)→aa0 Fin s l (i+1) (a.put o.dst (aaJ (K i s) (s i))) (fun j w=>if j=i then r6 (K i s) (s i) w else F j w) (jG (K i s) (s i)::G))
end
section
variable {P:Program} {ops:List Oper} {fl:LN} {w0:World} {K:Nat→zQ→Kind}
end
def af0 (hl:List (Nat × List Ent)) (f:Nat) (w:World):Prop:=∀ p∈hl,p.1=f→∀ e∈p.2,e.ok w
def aP (N k:Nat):Array Bool:=(List.replicate k true++List.replicate (N - k) false).toArray
def lM (P:Program) (ops:Array Oper) (Q:Exit→Act→World→Prop) (Sd:Nat→World→Prop):List Oper→Nat→Act→World→Prop
 | [],_,a,w=>Q .normal a w
 | o::l,k,a,w=>if Region.wanted o (yielded ops a.tmps) then o.wp P a w (fun a' w'=>Sd k w'∧lM P ops Q Sd l (k+1) a' w') Q else Sd k w∧lM P ops Q Sd l (k+1) (a.put o.dst undef) w
section
variable (P:Program) (w0:World) (gs:LN) (n:Nat) (fl:LN) (hl:List (Nat × List Ent)) (Q:Exit→Act→World→Prop) (ops:List Oper) (L0:List Ent)
def Sd (k:Nat) (w:World):Prop:=Sp ops fl (af0 hl) (aP ops.length (k+1)) w
def DQS (tail:List Oper) (hN:Nat) (i:Nat) (rest:List Oper) (C:zQ→Prop) (K:zQ→List (Nat × Value)) (N:zQ→List (Nat × Ent)):Prop :=
 ∃ ks:Nat→zQ→Kind,(∀ j,i≤j→Dep ops j (ks j))∧(∀ j s,i≤j→∃ x,lw (ks j s) x) ∧
  ∀ s a w F G,C s→a.defers=[]→a.tmps.size=n→Kn (K s) a→Me w0 gs L0 w→Gr G (N s)→(∀ j e,(j,e)∈N s→j<i)→(∀ j w',i≤j→F j w')→(∀ j w',F j w'→(∀ e,(j,e)∈N s→e.ok w'))→((∃ w',∀ j,F j w')→∀ x∈G,x.Nodup) →
   aa0 P ops fl (af0 hl) w ks (fun a' F' G'=>∀ w',Below w.heap.size w w'→(∀ j,F' j w')→G'.Pairwise apart→(∀ x∈G',∀ g∈x,w.heap.size≤g)→lM P ops.toArray Q (Sd fl hl ops) tail hN a' w') s rest i a F G
end
section
variable {P:Program} {w0:World} {gs:LN} {n:Nat} {fl:LN} {hl:List (Nat × List Ent)} {Q:Exit→Act→World→Prop} {ops:List Oper} {L0:List Ent}
variable {tail rest:List Oper} {nh:Nat} {i:Nat} {C:zQ→Prop} {K:zQ→List (Nat × Value)} {N:zQ→List (Nat × Ent)}
variable {d:Nat} {op:Op} {ty:TypeId} {pos:String} {after:Array Edge} {gd:Option (Nat × Bool)}
end
end Sx
end
end Go.Proofs.YtiaibpcaloigkaaGreatDoor
