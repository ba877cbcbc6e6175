/- Part 53 of the proof. -/
import Derived.Test.YtiaibpcaloigkaaGreatDoorC52
set_option linter.unusedSimpArgs false
set_option linter.unusedVariables false
namespace Go.Proofs.YtiaibpcaloigkaaGreatDoor
section
open Go Go.RowKit Go.BigFrame Go.WideShapes
namespace Sx
section
variable {P:Program} {w:World}
theorem lJ {r:Reach} {b0:Nat} {t:TypeId} {n:Nat} {e:TypeId} {v:Value} (ht:P.underlying t=some (.array n e)) (h:Value.okWide P w r b0 t v):∃ cs,v=.agg cs:=by
 unfold Value.okWide at h;rw[ht] at h;obtain⟨cs,h1,_⟩:=h;exact⟨cs,h1⟩
end
section
variable {H:Type} {enc:TypeId × Value→H} {w:World} {base:Nat} {spare:Nat→Bool} {held:Bool} {fuel:Nat} {cs:LV} {x:DataW H × List MemPlace}
theorem kV {P:Program} {N:Nat} {t e:TypeId} (ht:P.underlying t=some (.array N e)) (he:P.underlying e=some (.int .u8)) (hN:P.cellsOf t=N) (h1:P.cellsOf e=1) (h:DataW.trod enc P w base spare held fuel t cs=some x):∃ A:List Nat,(∀ b∈A,b<256)∧A.length=N∧cs=byC A:=by
 obtain⟨xs,m,_,_,hl,hlen,hp⟩:=DataW.trod_array ht h;rw[hN] at hl;have k:∀ i,i<N→∃ n:Nat,n<256∧cs[i]?=some (.int .u8 (n:Int)):=fun i hi=>by
  have h2:=hp i hi;rw[List.getElem?_eq_getElem Om,h1,Nat.mul_one] at h2;obtain⟨n,hn,e⟩:=jN he h2;have h3:=yI (cs:=cs) (off:=i) (n:=1) e (j:=0) (v:=.int .u8 (n:Int)) rfl;exact⟨n,hn,h3⟩
 have kv:∀ v∈cs,∃ n:Nat,n<256∧v=.int .u8 (n:Int):=fun v hv=>by
  obtain⟨i,hi,hvi⟩:=List.getElem_of_mem hv;obtain⟨n,hn,e⟩:=k i Om;rw[List.getElem?_eq_getElem hi,hvi] at e;exact⟨n,hn,Option.some.inj e⟩
 refine⟨cs.map fun v=>(match v with|.int _ n=>n.toNat|_=>0),fun b hb=>?_,by rw[List.length_map];exact hl,?_⟩
 ·obtain⟨v,hv,rfl⟩:=List.mem_map.1 hb;obtain⟨n,hn,rfl⟩:=kv v hv;simpa using hn
 ·unfold byC;rw[List.map_map];have h3:cs.map id=cs:=List.map_id cs
  conv=>lhs;rw[← h3]
  apply List.map_congr_left;intro v hv;obtain⟨n,hn,rfl⟩:=kv v hv;simp
theorem aeD:Tryz.prog.cellsOf 33=2:=Kr
theorem aeM (h:DataW.trod enc Tryz.prog w base spare held fuel 33 cs=some x):∃ f0 f1:Nat,f0<256∧f1<256∧cs=[.int .u8 (f0:Int),.int .u8 (f1:Int)]:=by
 obtain⟨A,h1,h2,e⟩:=kV Tryz.underlying33 Tryz.underlying5 aeD aie h
 match A,h2 with
 | [f0,f1],_=>exact⟨f0,f1,h1 f0 Sm,h1 f1 Sm,e⟩
end
end Sx
end
end Go.Proofs.YtiaibpcaloigkaaGreatDoor
