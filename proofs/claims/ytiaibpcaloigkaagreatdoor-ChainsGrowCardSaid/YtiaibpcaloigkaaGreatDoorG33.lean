/- Part 33 of the proof. -/
import Derived.Test.YtiaibpcaloigkaaGreatDoorG08
import Derived.WalkKit
import Derived.LaidEql
import Derived.Stop.Asserts
import Derived.RowKitTokens
set_option linter.unusedSimpArgs false
set_option linter.unusedVariables false
set_option maxHeartbeats 8000000
namespace Go.Proofs.YtiaibpcaloigkaaGreatDoor
section
open Go.RowKit Go.Extern.Stop Go.Stop Go.Extern
namespace Sx
theorem af6 (t:Value) (w:World) :
  Calls Tryz.prog 148 #[.nilIface,t] w fun e w'=>e=.returned (.bool false)∧w'=w:=by
 go_enter Tryz.func148,Tryz.ntmps148
 go_wp2
 go_ret
 exact⟨rfl,rfl⟩
theorem Asx.valueOf27 (t:Addr) (w:World):(ReflectliteValue.unpack (.iface 243 (.pointer (some t)))).run Tryz.prog w
  = .ok (.agg #[.pointer (some ⟨3,243,none⟩),.pointer (some ⟨w.heap.size,0,none⟩),.int .u64 150]) (w.alloc (.cells #[.pointer (some t)] 243)):=Kr
theorem Asx.type27 (a:Addr) (w:World):(ReflectliteValue.methodAny (ReflectliteValue.valueError "reflectlite.Value.Type" 0) (fun t _ _ _=>ReflectliteType.toType t) #[.agg #[.pointer (some ⟨3,243,none⟩),.pointer (some a),.int .u64 150]]).run Tryz.prog w
  = .ok (.iface 341 (.agg #[.pointer (some ⟨3,243,none⟩)])) w:=Kr
theorem Asx.methodKind (h:Value) (w:World):(Go.method 521 341 (.agg #[h]) "Kind").run Tryz.prog w=.ok (291,h) w:=Kr
theorem Asx.kind27 (w:World):((ReflectliteType.abiMethod fun t=>(fun a:Nat=>Value.int IntKind.u8 (a:Int)) <$> Rtype.kind t) #[.pointer (some ⟨3,243,none⟩)]).run Tryz.prog w=.ok (.int .u8 22) w:=Kr
theorem Asx.kind25 (w:World):((ReflectliteType.abiMethod fun t=>(fun a:Nat=>Value.int IntKind.u8 (a:Int)) <$> Rtype.kind t) #[.pointer (some ⟨3,182,none⟩)]).run Tryz.prog w=.ok (.int .u8 22) w:=Kr
theorem rlm (z:Sem Value) (f:TypeId→Addr→Nat→Nat→Sem Value) (v:Value) :
  ReflectliteValue.method z f #[v]=(do match ← ReflectliteValue.parts v with|none=>z|some (t,a,fl)=>f t a fl (fl%32)):=rfl
theorem Asx.parts27 (a:Addr) (w:World):(ReflectliteValue.parts (.agg #[.pointer (some ⟨3,243,none⟩),.pointer (some a),.int .u64 150])).run Tryz.prog w=.ok (some (243,a,150)) w:=Kr
theorem Asx.isNil27 (a p:Addr) (W:World) (ha:W.cell? a=some (.pointer (some p))) :
  (ReflectliteValue.method (ReflectliteValue.valueError "reflectlite.Value.IsNil" 0) ReflectliteValue.isNil #[.agg #[.pointer (some ⟨3,243,none⟩),.pointer (some a),.int .u64 150]]).run Tryz.prog W=.ok (.bool false) W:=by
 rw[rlm];simp only[Sem.run_bind,Asx.parts27,Result.andThen];simp[ReflectliteValue.isNil,loadVar,isAgg,underlying,Tryz.underlying243,ha,Result.andThen]
theorem Asx.methodElem (h:Value) (w:World):(Go.method 521 341 (.agg #[h]) "Elem").run Tryz.prog w=.ok (302,.agg #[h]) w:=Kr
theorem Asx.methodImplements (h:Value) (w:World):(Go.method 521 341 (.agg #[h]) "Implements").run Tryz.prog w=.ok (303,.agg #[h]) w:=Kr
theorem Asx.methodAssignableTo (h:Value) (w:World):(Go.method 521 341 (.agg #[h]) "AssignableTo").run Tryz.prog w=.ok (300,.agg #[h]) w:=Kr
theorem Asx.elem27 (w:World):(ReflectliteType.method ReflectliteType.elem #[.agg #[.pointer (some ⟨3,243,none⟩)]]).run Tryz.prog w=.ok (.iface 341 (.agg #[.pointer (some ⟨3,182,none⟩)])) w:=Kr
theorem Asx.implements25 (w:World):(ReflectliteType.relation "Implements" ReflectliteType.implements_ #[.agg #[.pointer (some ⟨3,182,none⟩)],.iface 341 (.agg #[.pointer (some ⟨3,174,none⟩)])]).run Tryz.prog w=.ok (.bool true) w:=Kr
theorem Asx.typeOf25 (v:Value) (w:World):(ReflectliteType.typeOf #[.iface 182 v]).run Tryz.prog w=.ok (.iface 341 (.agg #[.pointer (some ⟨3,182,none⟩)])) w:=Kr
theorem Asx.assignable25 (w:World):(ReflectliteType.relation "AssignableTo" ReflectliteType.assignableTo #[.agg #[.pointer (some ⟨3,182,none⟩)],.iface 341 (.agg #[.pointer (some ⟨3,182,none⟩)])]).run Tryz.prog w=.ok (.bool true) w:=Kr
theorem Asx.valueOf25 (e:Addr) (w:World):(ReflectliteValue.unpack (.iface 182 (.pointer (some e)))).run Tryz.prog w
  = .ok (.agg #[.pointer (some ⟨3,182,none⟩),.pointer (some ⟨w.heap.size,0,none⟩),.int .u64 150]) (w.alloc (.cells #[.pointer (some e)] 182)):=Kr
theorem Asx.elemOf27 (w:World):(Rtype.elem? 243).run Tryz.prog w=.ok (some 182) w:=Kr
theorem Asx.mk25 (p:Addr) (w:World):(ReflectliteValue.mk 182 p ReflectliteValue.flagAddr).run Tryz.prog w=.ok (.agg #[.pointer (some ⟨3,182,none⟩),.pointer (some p),.int .u64 406]) w:=Kr
theorem Asx.elemV27 (a p:Addr) (W:World) (ha:W.cell? a=some (.pointer (some p))) :
  (ReflectliteValue.method (ReflectliteValue.valueError "reflectlite.Value.Elem" 0) ReflectliteValue.elem #[.agg #[.pointer (some ⟨3,243,none⟩),.pointer (some a),.int .u64 150]]).run Tryz.prog W
   = .ok (.agg #[.pointer (some ⟨3,182,none⟩),.pointer (some p),.int .u64 406]) W:=by
 rw[rlm];simp only[Sem.run_bind,Asx.parts27,Result.andThen];simp[ReflectliteValue.elem,loadVar,isAgg,underlying,Tryz.underlying243,ha,Result.andThen,Asx.elemOf27,Asx.mk25]
theorem rls (v x:Value):ReflectliteValue.set #[v,x]=(do
  let (some (dst,a,fl),some (src,b,_)):=(← ReflectliteValue.parts v,← ReflectliteValue.parts x)
   | unsupported (.noEntry "extern/(internal/reflectlite.Value).Set.zeroValue")
  if fl / ReflectliteValue.flagAddr%2 == 0 then unsupported (.noEntry "extern/(internal/reflectlite.Value).Set.unaddressable")
  let val ← loadVar src b
  if ← Rtype.directlyAssignable dst src then storeVar dst a val
  else if ← Rtype.implements dst src then
   if (← Rtype.kind src) == 20 then
    match val with
    | .nilIface=>unsupported (.noEntry "extern/reflectlite: a nil value of one interface type handed on as a value of another")
    | _=>storeVar dst a val
   else storeVar dst a (.iface src val)
  else panicString ("reflectlite.Set: value of type "++(← Rtype.spelt src)++ " is not assignable to type "++(← Rtype.spelt dst))
  pure (.tuple #[])):=rfl
theorem Asx.parts25a (a:Addr) (w:World):(ReflectliteValue.parts (.agg #[.pointer (some ⟨3,182,none⟩),.pointer (some a),.int .u64 406])).run Tryz.prog w=.ok (some (182,a,406)) w:=Kr
theorem Asx.parts25 (a:Addr) (w:World):(ReflectliteValue.parts (.agg #[.pointer (some ⟨3,182,none⟩),.pointer (some a),.int .u64 150])).run Tryz.prog w=.ok (some (182,a,150)) w:=Kr
theorem Asx.direct25 (w:World):(Rtype.directlyAssignable 182 182).run Tryz.prog w=.ok true w:=Kr
theorem Asx.set25 (ta b e:Addr) (old:Value) (W:World) (hb:W.cell? b=some (.pointer (some e))) (ht:W.cell? ta=some old) (hf:W.frozen? ta=false) :
  (ReflectliteValue.set #[.agg #[.pointer (some ⟨3,182,none⟩),.pointer (some ta),.int .u64 406],.agg #[.pointer (some ⟨3,182,none⟩),.pointer (some b),.int .u64 150]]).run Tryz.prog W
   = .ok (.tuple #[]) (W.setCell ta (.pointer (some e))):=by
 rw[rls];simp only[Sem.run_bind,Asx.parts25a,Asx.parts25,Result.andThen];simp[ReflectliteValue.flagAddr,loadVar,isAgg,underlying,Tryz.underlying182,hb,Result.andThen,Asx.direct25,storeVar,Value.cells,storeCells,Addr.add];rw[run_store Tryz.prog W ta _ _ (by rfl)];simp[ht,hf]
theorem afM (e t:Addr) (old:Value) (w:World) (hg:w.cell? ⟨0,0,none⟩=some (.iface 341 (.agg #[.pointer (some ⟨3,174,none⟩)]))) (ht0:w.cell? t=some old) (hf0:w.frozen? t=false) :
  Calls Tryz.prog 148 #[.iface 182 (.pointer (some e)),.iface 243 (.pointer (some t))] w fun ev w'=>ev=.returned (.bool true)∧w'=((((w.alloc (.cells #[.pointer (some t)] 243)).alloc (.cells #[.pointer (some ⟨3,243,none⟩),.pointer (some ⟨w.heap.size,0,none⟩),.int .u64 150] 296)).alloc (.cells #[.pointer (some ⟨3,243,none⟩),.pointer (some ⟨w.heap.size,0,none⟩),.int .u64 150] 296)).alloc (.cells #[.pointer (some e)] 182)).setCell t (.pointer (some e)):=by
 have h6:=@run_callFunc_extern Tryz.prog 190 _ (fun args=>ReflectliteValue.unpack (args.getD 0 (.tuple #[]))) Tryz.func190 Kr Kr Kr Kr;have h7:=@run_callFunc_extern Tryz.prog 191 _ (ReflectliteValue.methodAny (ReflectliteValue.valueError "reflectlite.Value.Type" 0) (fun t _ _ _=>ReflectliteType.toType t)) Tryz.func191 Kr Kr Kr Kr;have h8:=@run_callFunc_extern Tryz.prog 192 _ (ReflectliteValue.method (ReflectliteValue.valueError "reflectlite.Value.IsNil" 0) ReflectliteValue.isNil) Tryz.func192 Kr Kr Kr Kr;have h27:=@run_callFunc_extern Tryz.prog 291 _ (ReflectliteType.abiMethod fun t=>do pure (.int .u8 (← Rtype.kind t))) Tryz.func291 Kr Kr Kr Kr;have h37:=@run_callFunc_extern Tryz.prog 302 _ (ReflectliteType.method ReflectliteType.elem) Tryz.func302 Kr Kr Kr Kr;have h38:=@run_callFunc_extern Tryz.prog 303 _ (ReflectliteType.relation "Implements" ReflectliteType.implements_) Tryz.func303 Kr Kr Kr Kr;have h10:=@run_callFunc_extern Tryz.prog 233 _ ReflectliteType.typeOf Tryz.func233 Kr Kr Kr Kr;have h35:=@run_callFunc_extern Tryz.prog 300 _ (ReflectliteType.relation "AssignableTo" ReflectliteType.assignableTo) Tryz.func300 Kr Kr Kr Kr;have h11:=@run_callFunc_extern Tryz.prog 234 _ (ReflectliteValue.method (ReflectliteValue.valueError "reflectlite.Value.Elem" 0) ReflectliteValue.elem) Tryz.func234 Kr Kr Kr Kr;have h12:=@run_callFunc_extern Tryz.prog 235 _ ReflectliteValue.set Tryz.func235 Kr Kr Kr Kr;have tO:=Asx.typeOf25;have mA:=Asx.methodAssignableTo;have a25:=Asx.assignable25;have v25:=Asx.valueOf25;have f6:=Asx.valueOf27;have f7:=Asx.type27;have mK:=Asx.methodKind;have mE:=Asx.methodElem;have mI:=Asx.methodImplements;have k27:=Asx.kind27;have k25:=Asx.kind25;have e27:=Asx.elem27;have i25:=Asx.implements25;have n8:=Asx.isNil27 ⟨w.heap.size,0,none⟩ t ((w.alloc (.cells #[.pointer (some t)] 243)).alloc (.cells #[.pointer (some ⟨3,243,none⟩),.pointer (some ⟨w.heap.size,0,none⟩),.int .u64 150] 296)) Sm;have hlt:0<w.heap.size:=by
  rcases Nat.eq_zero_or_pos w.heap.size with h0|h
  ·simp[World.cell?,h0] at hg
  ·exact h
 have hg2:((w.alloc (.cells #[.pointer (some t)] 243)).alloc (.cells #[.pointer (some ⟨3,243,none⟩),.pointer (some ⟨w.heap.size,0,none⟩),.int .u64 150] 296)).cell? ⟨0,0,none⟩=some (.iface 341 (.agg #[.pointer (some ⟨3,174,none⟩)])):=by
  rw[World.cell?_alloc_lt _ _ ⟨0,0,none⟩ Sm,World.cell?_alloc_lt _ _ ⟨0,0,none⟩ hlt];exact hg
 have htl:t.block<w.heap.size:=by
  rcases Nat.lt_or_ge t.block w.heap.size with h|h
  ·exact h
  ·simp[World.cell?,Array.getElem?_eq_none h] at ht0
 have el:=Asx.elemV27 ⟨w.heap.size,0,none⟩ t (((w.alloc (.cells #[.pointer (some t)] 243)).alloc (.cells #[.pointer (some ⟨3,243,none⟩),.pointer (some ⟨w.heap.size,0,none⟩),.int .u64 150] 296)).alloc (.cells #[.pointer (some ⟨3,243,none⟩),.pointer (some ⟨w.heap.size,0,none⟩),.int .u64 150] 296)) (by rw[World.cell?_alloc_lt _ _ ⟨w.heap.size,0,none⟩ (by simp;omega)];simp)
 have st:=Asx.set25 t ⟨w.heap.size+1+1+1,0,none⟩ e old ((((w.alloc (.cells #[.pointer (some t)] 243)).alloc (.cells #[.pointer (some ⟨3,243,none⟩),.pointer (some ⟨w.heap.size,0,none⟩),.int .u64 150] 296)).alloc (.cells #[.pointer (some ⟨3,243,none⟩),.pointer (some ⟨w.heap.size,0,none⟩),.int .u64 150] 296)).alloc (.cells #[.pointer (some e)] 182))
  (by rw[World.cell?_alloc_at _ _ _ _ Sm];rfl)
  (by rw[World.cell?_alloc_lt _ _ t (by simp;omega),World.cell?_alloc_lt _ _ t (by simp;omega),World.cell?_alloc_lt _ _ t (by simp;omega),World.cell?_alloc_lt _ _ t htl];exact ht0)
  (by rw[World.frozen?_alloc_old _ _ t (by simp;omega),World.frozen?_alloc_old _ _ t (by simp;omega),World.frozen?_alloc_old _ _ t (by simp;omega),World.frozen?_alloc_old _ _ t (Nat.ne_of_lt htl)];exact hf0)
 go_enter Tryz.func148,Tryz.ntmps148
 go_wp2;refine wp_loop_rounds 1 ?_;rw[rounds_succ];go_wp2
 go_ret
 exact⟨rfl,rfl⟩
end Sx
end
end Go.Proofs.YtiaibpcaloigkaaGreatDoor
