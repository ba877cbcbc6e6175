/- Part 28 of the proof. -/
import Derived.Test.YtiiefkchpicncaaGreatDoorB03
import Derived.OrdersHeld
import Derived.WalkKit
import Derived.LaidEql
import Derived.Stop.Asserts
import Derived.RowKitTokens
set_option linter.unusedSimpArgs false
set_option linter.unusedVariables false
set_option maxHeartbeats 8000000
namespace Go.Proofs.YtiiefkchpicncaaGreatDoor
section
open Go Go.RowKit Go.BigFrame
namespace Sx
open Kp
def ahR (ops:List Oper) (fl:List Nat) (listed:Array Bool) (f:Nat):Bool:=(List.range ops.length).all fun t=>fl.contains t || !listed.getD t false || match ops[t]? with
 | some o=>o.after.all fun e=>!(Region.binds .any e && e.on == f)
 | none=>true
def Sp (ops:List Oper) (fl:List Nat) (Hf:Nat→World→Prop) (listed:Array Bool) (w:World):Prop:=∀ f,fl.contains f=true→ahR ops fl listed f=true→Hf f w
section
variable (P:Program) (ops:List Oper) (fl:List Nat) (Hf:Nat→World→Prop) (w0:World)
def aik (k:Kind) (i:Nat) (o:Oper) (a:Act) (F:Nat→World→Prop):Prop :=
 match k with
 | .skip=>Region.wanted o (yielded ops.toArray a.tmps)=false
 | .val v=>Region.wanted o (yielded ops.toArray a.tmps)=true∧((∀ w,Hf i w→(execOp a.eval o).run P w=.ok (.value v) w)∨(fl.contains i=false ∧
   ∀ w,Below w0.heap.size w0 w→(∀ j,anc ops i j=true→F j w)→kyp P o a w (fun u w'=>u=v∧Below w.heap.size w w')))
 | .rel v S V A=>fl.contains i=false∧Region.wanted o (yielded ops.toArray a.tmps)=true∧(∃ x,S x)∧(∀ x w w',V x w→Below w.heap.size w w'→V x w') ∧
   ∀ w,Below w0.heap.size w0 w→(∀ j,anc ops i j=true→F j w)→kyp P o a w (fun u w'=>∃ x,u=v x∧S x∧V x w'∧Below w.heap.size w w'∧∀ g∈A x,w.heap.size≤g∧g<w'.heap.size)
variable (K:Nat→zW→Kind)
def ac0 (Fin:Act→(Nat→World→Prop)→List (List Nat)→Prop) (s:zW):List Oper→Nat→Act→(Nat→World→Prop)→List (List Nat)→Prop
 | [],_,a,F,G=>Fin a F G
 | o::l,i,a,F,G=>aik P ops fl Hf w0 (K i s) i o a F∧(kF (K i s) (s i)→ac0 Fin s l (i+1) (a.put o.dst (adl (K i s) (s i))) (fun j w=>if j=i then qR (K i s) (s i) w else F j w) (iM (K i s) (s i)::G))
end
section
variable {P:Program} {ops:List Oper} {fl:List Nat} {w0:World} {K:Nat→zW→Kind}
end
def ah8 (hl:List (Nat × List Ent)) (f:Nat) (w:World):Prop:=∀ p∈hl,p.1=f→∀ e∈p.2,e.ok w
def abX (N k:Nat):Array Bool:=(List.replicate k true++List.replicate (N - k) false).toArray
def jc (P:Program) (ops:Array Oper) (Q:Exit→Act→World→Prop) (Sd:Nat→World→Prop):List Oper→Nat→Act→World→Prop
 | [],_,a,w=>Q .normal a w
 | o::l,k,a,w=>if Region.wanted o (yielded ops a.tmps) then o.wp P a w (fun a' w'=>Sd k w'∧jc P ops Q Sd l (k+1) a' w') Q else Sd k w∧jc P ops Q Sd l (k+1) (a.put o.dst undef) w
section
variable (P:Program) (w0:World) (gs:List Nat) (n:Nat) (fl:List Nat) (hl:List (Nat × List Ent)) (Q:Exit→Act→World→Prop) (ops:List Oper) (L0:List Ent)
def Sd (k:Nat) (w:World):Prop:=Sp ops fl (ah8 hl) (abX ops.length (k+1)) w
def DQS (tail:List Oper) (hN:Nat) (i:Nat) (rest:List Oper) (C:zW→Prop) (K:zW→List (Nat × Value)) (N:zW→List (Nat × Ent)):Prop :=
 ∃ ks:Nat→zW→Kind,(∀ j,i≤j→Dep ops j (ks j))∧(∀ j s,i≤j→∃ x,kF (ks j s) x) ∧
  ∀ s a w F G,C s→a.defers=[]→a.tmps.size=n→Kn (K s) a→Me w0 gs L0 w→Gr G (N s)→(∀ j e,(j,e)∈N s→j<i)→(∀ j w',i≤j→F j w')→(∀ j w',F j w'→(∀ e,(j,e)∈N s→e.ok w'))→((∃ w',∀ j,F j w')→∀ x∈G,x.Nodup) →
   ac0 P ops fl (ah8 hl) w ks (fun a' F' G'=>∀ w',Below w.heap.size w w'→(∀ j,F' j w')→G'.Pairwise apart→(∀ x∈G',∀ g∈x,w.heap.size≤g)→jc P ops.toArray Q (Sd fl hl ops) tail hN a' w') s rest i a F G
end
section
variable {P:Program} {w0:World} {gs:List Nat} {n:Nat} {fl:List Nat} {hl:List (Nat × List Ent)} {Q:Exit→Act→World→Prop} {ops:List Oper} {L0:List Ent}
variable {tail rest:List Oper} {nh:Nat} {i:Nat} {C:zW→Prop} {K:zW→List (Nat × Value)} {N:zW→List (Nat × Ent)}
variable {d:Nat} {op:Op} {ty:TypeId} {pos:String} {after:Array Edge} {gd:Option (Nat × Bool)}
end
end Sx
end
section
open Go.RowKit Go.Extern.Stop Go.Stop Go.Extern
namespace Sx
theorem ag5 (t:Value) (w:World) :
  Calls Tryz.prog 133 #[.nilIface,t] w fun e w'=>e=.returned (.bool false)∧w'=w:=by
 go_enter Tryz.func133,Tryz.ntmps133
 go_wp2
 go_ret
 exact⟨rfl,rfl⟩
theorem Asx.valueOf27 (t:Addr) (w:World):(ReflectliteValue.unpack (.iface 220 (.pointer (some t)))).run Tryz.prog w
  = .ok (.agg #[.pointer (some ⟨3,220,none⟩),.pointer (some ⟨w.heap.size,0,none⟩),.int .u64 150]) (w.alloc (.cells #[.pointer (some t)] 220)):=by kernel_rfl
theorem Asx.type27 (a:Addr) (w:World):(ReflectliteValue.methodAny (ReflectliteValue.valueError "reflectlite.Value.Type" 0) (fun t _ _ _=>ReflectliteType.toType t) #[.agg #[.pointer (some ⟨3,220,none⟩),.pointer (some a),.int .u64 150]]).run Tryz.prog w
  = .ok (.iface 304 (.agg #[.pointer (some ⟨3,220,none⟩)])) w:=by kernel_rfl
theorem Asx.methodKind (h:Value) (w:World):(Go.method 477 304 (.agg #[h]) "Kind").run Tryz.prog w=.ok (256,h) w:=by kernel_rfl
theorem Asx.kind27 (w:World):((ReflectliteType.abiMethod fun t=>(fun a:Nat=>Value.int IntKind.u8 (a:Int)) <$> Rtype.kind t) #[.pointer (some ⟨3,220,none⟩)]).run Tryz.prog w=.ok (.int .u8 22) w:=by kernel_rfl
theorem Asx.kind25 (w:World):((ReflectliteType.abiMethod fun t=>(fun a:Nat=>Value.int IntKind.u8 (a:Int)) <$> Rtype.kind t) #[.pointer (some ⟨3,167,none⟩)]).run Tryz.prog w=.ok (.int .u8 22) w:=by kernel_rfl
theorem rlm (z:Sem Value) (f:TypeId→Addr→Nat→Nat→Sem Value) (v:Value) :
  ReflectliteValue.method z f #[v]=(do match ← ReflectliteValue.parts v with|none=>z|some (t,a,fl)=>f t a fl (fl%32)):=rfl
theorem Asx.parts27 (a:Addr) (w:World):(ReflectliteValue.parts (.agg #[.pointer (some ⟨3,220,none⟩),.pointer (some a),.int .u64 150])).run Tryz.prog w=.ok (some (220,a,150)) w:=by kernel_rfl
theorem Asx.isNil27 (a p:Addr) (W:World) (ha:W.cell? a=some (.pointer (some p))) :
  (ReflectliteValue.method (ReflectliteValue.valueError "reflectlite.Value.IsNil" 0) ReflectliteValue.isNil #[.agg #[.pointer (some ⟨3,220,none⟩),.pointer (some a),.int .u64 150]]).run Tryz.prog W=.ok (.bool false) W:=by
 rw[rlm];simp only[Sem.run_bind,Asx.parts27,Result.andThen];simp[ReflectliteValue.isNil,loadVar,isAgg,underlying,Tryz.underlying220,ha,Result.andThen]
theorem Asx.methodElem (h:Value) (w:World):(Go.method 477 304 (.agg #[h]) "Elem").run Tryz.prog w=.ok (267,.agg #[h]) w:=by kernel_rfl
theorem Asx.methodImplements (h:Value) (w:World):(Go.method 477 304 (.agg #[h]) "Implements").run Tryz.prog w=.ok (268,.agg #[h]) w:=by kernel_rfl
theorem Asx.methodAssignableTo (h:Value) (w:World):(Go.method 477 304 (.agg #[h]) "AssignableTo").run Tryz.prog w=.ok (265,.agg #[h]) w:=by kernel_rfl
theorem Asx.elem27 (w:World):(ReflectliteType.method ReflectliteType.elem #[.agg #[.pointer (some ⟨3,220,none⟩)]]).run Tryz.prog w=.ok (.iface 304 (.agg #[.pointer (some ⟨3,167,none⟩)])) w:=by kernel_rfl
theorem Asx.implements25 (w:World):(ReflectliteType.relation "Implements" ReflectliteType.implements_ #[.agg #[.pointer (some ⟨3,167,none⟩)],.iface 304 (.agg #[.pointer (some ⟨3,161,none⟩)])]).run Tryz.prog w=.ok (.bool true) w:=by kernel_rfl
theorem Asx.typeOf25 (v:Value) (w:World):(ReflectliteType.typeOf #[.iface 167 v]).run Tryz.prog w=.ok (.iface 304 (.agg #[.pointer (some ⟨3,167,none⟩)])) w:=by kernel_rfl
theorem Asx.assignable25 (w:World):(ReflectliteType.relation "AssignableTo" ReflectliteType.assignableTo #[.agg #[.pointer (some ⟨3,167,none⟩)],.iface 304 (.agg #[.pointer (some ⟨3,167,none⟩)])]).run Tryz.prog w=.ok (.bool true) w:=by kernel_rfl
theorem Asx.valueOf25 (e:Addr) (w:World):(ReflectliteValue.unpack (.iface 167 (.pointer (some e)))).run Tryz.prog w
  = .ok (.agg #[.pointer (some ⟨3,167,none⟩),.pointer (some ⟨w.heap.size,0,none⟩),.int .u64 150]) (w.alloc (.cells #[.pointer (some e)] 167)):=by kernel_rfl
theorem Asx.elemOf27 (w:World):(Rtype.elem? 220).run Tryz.prog w=.ok (some 167) w:=by kernel_rfl
theorem Asx.mk25 (p:Addr) (w:World):(ReflectliteValue.mk 167 p ReflectliteValue.flagAddr).run Tryz.prog w=.ok (.agg #[.pointer (some ⟨3,167,none⟩),.pointer (some p),.int .u64 406]) w:=by kernel_rfl
theorem Asx.elemV27 (a p:Addr) (W:World) (ha:W.cell? a=some (.pointer (some p))) :
  (ReflectliteValue.method (ReflectliteValue.valueError "reflectlite.Value.Elem" 0) ReflectliteValue.elem #[.agg #[.pointer (some ⟨3,220,none⟩),.pointer (some a),.int .u64 150]]).run Tryz.prog W
   = .ok (.agg #[.pointer (some ⟨3,167,none⟩),.pointer (some p),.int .u64 406]) W:=by
 rw[rlm];simp only[Sem.run_bind,Asx.parts27,Result.andThen];simp[ReflectliteValue.elem,loadVar,isAgg,underlying,Tryz.underlying220,ha,Result.andThen,Asx.elemOf27,Asx.mk25]
theorem rls (v x:Value):ReflectliteValue.set #[v,x]=(do
  let (some (dst,a,fl),some (src,b,_)):=(← ReflectliteValue.parts v,← ReflectliteValue.parts x)
   | unsupported (.noEntry "extern/(internal/reflectlite.Value).Set.zeroValue")
  if fl / ReflectliteValue.flagAddr%2 == 0 then unsupported (.noEntry "extern/(internal/reflectlite.Value).Set.unaddressable")
  let val ← loadVar src b
  if ← Rtype.directlyAssignable dst src then storeVar dst a val
  else if ← Rtype.implements dst src then
   if (← Rtype.kind src) == 20 then
    match val with
    | .nilIface=>unsupported (.noEntry "extern/reflectlite: a nil value of one interface type handed on as a value of another")
    | _=>storeVar dst a val
   else storeVar dst a (.iface src val)
  else panicString ("reflectlite.Set: value of type "++(← Rtype.spelt src)++ " is not assignable to type "++(← Rtype.spelt dst))
  pure (.tuple #[])):=rfl
theorem Asx.parts25a (a:Addr) (w:World):(ReflectliteValue.parts (.agg #[.pointer (some ⟨3,167,none⟩),.pointer (some a),.int .u64 406])).run Tryz.prog w=.ok (some (167,a,406)) w:=by kernel_rfl
theorem Asx.parts25 (a:Addr) (w:World):(ReflectliteValue.parts (.agg #[.pointer (some ⟨3,167,none⟩),.pointer (some a),.int .u64 150])).run Tryz.prog w=.ok (some (167,a,150)) w:=by kernel_rfl
theorem Asx.direct25 (w:World):(Rtype.directlyAssignable 167 167).run Tryz.prog w=.ok true w:=by kernel_rfl
theorem Asx.set25 (ta b e:Addr) (old:Value) (W:World) (hb:W.cell? b=some (.pointer (some e))) (ht:W.cell? ta=some old) (hf:W.frozen? ta=false) :
  (ReflectliteValue.set #[.agg #[.pointer (some ⟨3,167,none⟩),.pointer (some ta),.int .u64 406],.agg #[.pointer (some ⟨3,167,none⟩),.pointer (some b),.int .u64 150]]).run Tryz.prog W
   = .ok (.tuple #[]) (W.setCell ta (.pointer (some e))):=by
 rw[rls];simp only[Sem.run_bind,Asx.parts25a,Asx.parts25,Result.andThen];simp[ReflectliteValue.flagAddr,loadVar,isAgg,underlying,Tryz.underlying167,hb,Result.andThen,Asx.direct25,storeVar,Value.cells,storeCells,Addr.add];rw[run_store Tryz.prog W ta _ _ (by rfl)];simp[ht,hf]
theorem agS (e t:Addr) (old:Value) (w:World) (hg:w.cell? ⟨0,0,none⟩=some (.iface 304 (.agg #[.pointer (some ⟨3,161,none⟩)]))) (ht0:w.cell? t=some old) (hf0:w.frozen? t=false) :
  Calls Tryz.prog 133 #[.iface 167 (.pointer (some e)),.iface 220 (.pointer (some t))] w fun ev w'=>ev=.returned (.bool true)∧w'=((((w.alloc (.cells #[.pointer (some t)] 220)).alloc (.cells #[.pointer (some ⟨3,220,none⟩),.pointer (some ⟨w.heap.size,0,none⟩),.int .u64 150] 265)).alloc (.cells #[.pointer (some ⟨3,220,none⟩),.pointer (some ⟨w.heap.size,0,none⟩),.int .u64 150] 265)).alloc (.cells #[.pointer (some e)] 167)).setCell t (.pointer (some e)):=by
 have h6:=@run_callFunc_extern Tryz.prog 171 _ (fun args=>ReflectliteValue.unpack (args.getD 0 (.tuple #[]))) Tryz.func171 (by kernel_rfl) (by kernel_rfl) (by kernel_rfl) (by kernel_rfl);have h7:=@run_callFunc_extern Tryz.prog 172 _ (ReflectliteValue.methodAny (ReflectliteValue.valueError "reflectlite.Value.Type" 0) (fun t _ _ _=>ReflectliteType.toType t)) Tryz.func172 (by kernel_rfl) (by kernel_rfl) (by kernel_rfl) (by kernel_rfl);have h8:=@run_callFunc_extern Tryz.prog 173 _ (ReflectliteValue.method (ReflectliteValue.valueError "reflectlite.Value.IsNil" 0) ReflectliteValue.isNil) Tryz.func173 (by kernel_rfl) (by kernel_rfl) (by kernel_rfl) (by kernel_rfl);have h27:=@run_callFunc_extern Tryz.prog 256 _ (ReflectliteType.abiMethod fun t=>do pure (.int .u8 (← Rtype.kind t))) Tryz.func256 (by kernel_rfl) (by kernel_rfl) (by kernel_rfl) (by kernel_rfl);have h37:=@run_callFunc_extern Tryz.prog 267 _ (ReflectliteType.method ReflectliteType.elem) Tryz.func267 (by kernel_rfl) (by kernel_rfl) (by kernel_rfl) (by kernel_rfl);have h38:=@run_callFunc_extern Tryz.prog 268 _ (ReflectliteType.relation "Implements" ReflectliteType.implements_) Tryz.func268 (by kernel_rfl) (by kernel_rfl) (by kernel_rfl) (by kernel_rfl);have h10:=@run_callFunc_extern Tryz.prog 207 _ ReflectliteType.typeOf Tryz.func207 (by kernel_rfl) (by kernel_rfl) (by kernel_rfl) (by kernel_rfl);have h35:=@run_callFunc_extern Tryz.prog 265 _ (ReflectliteType.relation "AssignableTo" ReflectliteType.assignableTo) Tryz.func265 (by kernel_rfl) (by kernel_rfl) (by kernel_rfl) (by kernel_rfl);have h11:=@run_callFunc_extern Tryz.prog 208 _ (ReflectliteValue.method (ReflectliteValue.valueError "reflectlite.Value.Elem" 0) ReflectliteValue.elem) Tryz.func208 (by kernel_rfl) (by kernel_rfl) (by kernel_rfl) (by kernel_rfl);have h12:=@run_callFunc_extern Tryz.prog 209 _ ReflectliteValue.set Tryz.func209 (by kernel_rfl) (by kernel_rfl) (by kernel_rfl) (by kernel_rfl);have tO:=Asx.typeOf25;have mA:=Asx.methodAssignableTo;have a25:=Asx.assignable25;have v25:=Asx.valueOf25;have f6:=Asx.valueOf27;have f7:=Asx.type27;have mK:=Asx.methodKind;have mE:=Asx.methodElem;have mI:=Asx.methodImplements;have k27:=Asx.kind27;have k25:=Asx.kind25;have e27:=Asx.elem27;have i25:=Asx.implements25;have n8:=Asx.isNil27 ⟨w.heap.size,0,none⟩ t ((w.alloc (.cells #[.pointer (some t)] 220)).alloc (.cells #[.pointer (some ⟨3,220,none⟩),.pointer (some ⟨w.heap.size,0,none⟩),.int .u64 150] 265)) (by simp);have hlt:0<w.heap.size:=by
  rcases Nat.eq_zero_or_pos w.heap.size with h0|h
  ·simp[World.cell?,h0] at hg
  ·exact h
 have hg2:((w.alloc (.cells #[.pointer (some t)] 220)).alloc (.cells #[.pointer (some ⟨3,220,none⟩),.pointer (some ⟨w.heap.size,0,none⟩),.int .u64 150] 265)).cell? ⟨0,0,none⟩=some (.iface 304 (.agg #[.pointer (some ⟨3,161,none⟩)])):=by
  rw[World.cell?_alloc_lt _ _ ⟨0,0,none⟩ (by simp),World.cell?_alloc_lt _ _ ⟨0,0,none⟩ hlt];exact hg
 have htl:t.block<w.heap.size:=by
  rcases Nat.lt_or_ge t.block w.heap.size with h|h
  ·exact h
  ·simp[World.cell?,Array.getElem?_eq_none h] at ht0
 have el:=Asx.elemV27 ⟨w.heap.size,0,none⟩ t (((w.alloc (.cells #[.pointer (some t)] 220)).alloc (.cells #[.pointer (some ⟨3,220,none⟩),.pointer (some ⟨w.heap.size,0,none⟩),.int .u64 150] 265)).alloc (.cells #[.pointer (some ⟨3,220,none⟩),.pointer (some ⟨w.heap.size,0,none⟩),.int .u64 150] 265)) (by rw[World.cell?_alloc_lt _ _ ⟨w.heap.size,0,none⟩ (by simp;omega)];simp)
 have st:=Asx.set25 t ⟨w.heap.size+1+1+1,0,none⟩ e old ((((w.alloc (.cells #[.pointer (some t)] 220)).alloc (.cells #[.pointer (some ⟨3,220,none⟩),.pointer (some ⟨w.heap.size,0,none⟩),.int .u64 150] 265)).alloc (.cells #[.pointer (some ⟨3,220,none⟩),.pointer (some ⟨w.heap.size,0,none⟩),.int .u64 150] 265)).alloc (.cells #[.pointer (some e)] 167))
  (by rw[World.cell?_alloc_at _ _ _ _ (by simp)];rfl)
  (by rw[World.cell?_alloc_lt _ _ t (by simp;omega),World.cell?_alloc_lt _ _ t (by simp;omega),World.cell?_alloc_lt _ _ t (by simp;omega),World.cell?_alloc_lt _ _ t htl];exact ht0)
  (by rw[World.frozen?_alloc_old _ _ t (by simp;omega),World.frozen?_alloc_old _ _ t (by simp;omega),World.frozen?_alloc_old _ _ t (by simp;omega),World.frozen?_alloc_old _ _ t (Nat.ne_of_lt htl)];exact hf0)
 go_enter Tryz.func133,Tryz.ntmps133
 go_wp2;refine wp_loop_rounds 1 ?_;rw[rounds_succ];go_wp2
 go_ret
 exact⟨rfl,rfl⟩
end Sx
end
end Go.Proofs.YtiiefkchpicncaaGreatDoor
