/- Part 10 of the proof. -/
import Derived.Test.YtiaibpcaloigkaaGreatDoorG05
import Derived.Test.YtiaibpcaloigkaaGreatDoorG09
import Derived.Shelf.Spec.BitsCarry
set_option linter.unusedSimpArgs false
set_option linter.unusedVariables false
set_option maxHeartbeats 8000000
namespace Go.Proofs.YtiaibpcaloigkaaGreatDoor
section
open Go Go.RowKit
namespace Sx
theorem Fn.of {P:Program} {f:FuncId} {args:LV} {v:Value} (h:∀ w,Calls P f args.toArray w fun e w'=>e=.returned v∧Below w.heap.size w w'):Fn P f args Tr (Is v) :=
 fun w _=>(h w).mono fun _ _ ⟨h1,h2⟩=>⟨v,[],h1,h2,.nil _ _,rfl⟩
theorem y8 : 1<ze:=by unfold ze;omega
theorem sk {n:Nat} (h:n<18446744073709551616):n<ze:=by unfold ze;omega
section
variable {w0:World} {gs:LN} {K:List (Nat × Value)} {L:List Ent}
theorem tb (op:BinOp) (x y:Operand) (a b:Array Value) (w:World):(eqGuard op 24 x y (.agg a) (.agg b)).run Tryz.prog w=.ok () w:=by
 cases op<;>kernel_rfl
theorem yO {x y:Operand} {yt ty:TypeId} {a b:Nat} (hx:ev K x=some (zk a):=by rfl) (hy:ev K y=some (zk b):=by rfl) (ha:a<ze:=by first|assumption|omega|exact y8|exact zE) (hb:b<ze:=by first|assumption|omega|exact y8|exact zE) :
  Does Tryz.prog w0 gs K L (.binOp .eql 24 x y yt) ty (.bool (decide (a=b))):=by
 intro ac w hk _ o ho _;have h1:=pq ha hb w;simp only[execOp,ho,hk.eval hx,hk.eval hy,Sem.run_bind,tb,Result.andThen_ok,h1,Sem.run_pure];rfl
theorem ti {x y:Operand} {yt ty:TypeId} {a b:Nat} (hx:ev K x=some (zk a):=by rfl) (hy:ev K y=some (zk b):=by rfl) (ha:a<ze:=by first|assumption|omega|exact y8|exact zE) (hb:b<ze:=by first|assumption|omega|exact y8|exact zE) :
  Does Tryz.prog w0 gs K L (.binOp .neq 24 x y yt) ty (.bool (decide (a≠b))):=by
 intro ac w hk _ o ho _;have h1:=yj ha hb w;have h2:(binOp .neq 24 (zk a) (zk b)).run Tryz.prog w=.ok (.bool (!eqN a b)) w:=by
  show ((do pure (.bool (!(← Op.equal 24 (zk a) (zk b)))):Sem Value)).run Tryz.prog w=_;simp only[Sem.run_bind];show ((Op.equalIn 10000 24 (zk a) (zk b)).run Tryz.prog w).andThen _=_;rw[h1];rfl
 simp only[execOp,ho,hk.eval hx,hk.eval hy,Sem.run_bind,tb,Result.andThen_ok,h2,Sem.run_pure];simp[eqN]
end
section
variable {p q:Prop}
theorem Tc (k:p) (h:p→q:=by first|exact fun k=>Tb k|exact fun k=>WO.does yO k|exact fun k=>WO.does ti k):q:=h k
theorem Tw (k:p) (h:p→q:=by first|exact fun k=>Ta k|exact fun k=>Tc k):q:=h k
theorem Tj (k:p) (h:p→q:=by first|exact fun k=>Ta k|exact fun k=>Tm k):q:=h k
theorem Tk (k:p) (h:p→q:=by first|exact fun k=>Tw k|exact fun k=>Tm k):q:=h k
abbrev Ap (g:Nat):Go.Value:=.pointer (some ⟨g,0,none⟩)
abbrev AQ (g n c:Nat):Go.Value:=.slice (some ⟨g,0,none⟩) n c
abbrev wZ (i a:Nat):Value:=.int .u64 ((wd i a:Nat):Int)
theorem Df (k:p) (h:p→q:=by first|exact fun k=>DQ.auto (k:=k)|exact fun k=>DQ.autoF (k:=k)|exact fun k=>DQ.does (fun s _=>yO) Dp.const k|exact fun k=>DQ.does (fun s _=>ti) Dp.const k):q:=h k
theorem Dc (k:p) (h:p→q:=by first|exact fun k=>DQ.auto (k:=k)|exact fun k=>DQ.does (fun s _=>yO) Dp.const k|exact fun k=>DQ.does (fun s _=>ti) Dp.const k):q:=h k
theorem Dx (k:p) (h:p→q:=by first|exact fun k=>Da k|exact fun k=>Dc k):q:=h k
end
end Sx
end
section
open Go Go.RowKit Go.BigFrame
namespace Sx
section
variable {P:Program} {w0:World} {gs:LN} {K:List (Nat × Value)} {L:List Ent}
theorem re {f:FuncId} {xs:Array Operand} {ats:Array TypeId} {vs:LV} {v:Value} {ty:TypeId} (h:∀ w,(callFunc f vs.toArray).run P w=.ok (.value v) w) (ha:evs K xs.toList=some vs) :
  Does P w0 gs K L (.call { callee:=.value (.func f),args:=xs,argTypes:=ats }) ty v:=by
 intro a w hk _ o ho _;obtain⟨dst,op,ty',pos,after,guard⟩:=o;subst ho;have e1:xs.map a.eval=vs.toArray:=by have h:=hk.evals ha;apply Array.ext';simpa using h
 have hx:ev K (.func f)=some (.func (.func f) ([]:LV).toArray ([]:LV).toArray):=rfl;simp only[execOp,resolve,e1,hk.eval hx,Deferred.ofValue,Sem.run_bind,Sem.run_pure,Result.andThen_ok,invoke];simpa using h w
end
theorem tS (x y c:Nat) (hc:c≤1) (w:World) :
  (callFunc 261 #[.int .u64 x,.int .u64 y,.int .u64 c]).run Tryz.prog w =
   .ok (.value (.tuple #[.int .u64 (((x+y+c)%18446744073709551616:Nat):Int),.int .u64 (((x+y+c) / 18446744073709551616:Nat):Int)])) w:=by
 rw[run_callFunc_extern (Tryz.func261) Kr Kr Kr (e:=add64Entry) Kr,run_add64 x y c Om Om Om Om];simp only[Result.andThen];congr 5<;>omega
def cy (a b:Nat):Nat→Nat
 | 0=>0
 | k+1=>(wd k a+wd k b+cy a b k) / 18446744073709551616
def sw (a b k:Nat):Nat:=(wd k a+wd k b+cy a b k)%18446744073709551616
theorem ae8 (a b k:Nat):cy a b k≤1:=by
 induction k with
 | zero=>exact Nat.zero_le _
 | succ k ih=>have:=yd k a;have:=yd k b;simp only[cy];omega
def wV (f:Nat→Nat) (i k:Nat):Value:=.int .u64 ((if i<k then f i else wd i 0:Nat):Int)
def acb (f:Nat→Nat) (k:Nat):List Value:=[wV f 0 k,wV f 1 k,wV f 2 k,wV f 3 k]
theorem jN (f:Nat→Nat) {k:Nat} (h:k<4):over (acb f k) k [.int .u64 ((f k:Nat):Int)]=acb f (k+1):=by
 have:k=0∨k=1∨k=2∨k=3:=by omega
 rcases this with rfl|rfl|rfl|rfl<;>rfl
theorem j0 (f:Nat→Nat) (k:Nat):(acb f k).length=4:=rfl
theorem jy {f:Nat→Nat} {s:Nat} (h:tn (f 0) (f 1) (f 2) (f 3)=s) (hf:∀ i,f i<18446744073709551616):acb f 4=zc s:=by
 obtain⟨h0,h1,h2,h3⟩:=ka (hf 0) (hf 1) (hf 2) (hf 3);rw[← h];unfold zc;rw[h0,h1,h2,h3];rfl
attribute [local irreducible] wd DQ WO WC WX
theorem afa (a b:Nat) (ha:a<ze) (hb:b<ze):Fn Tryz.prog 237 [zk a,zk b] Tr (Is (.tuple #[zk ((a+b)%ze),.int .u64 (((a+b) / ze:Nat):Int)])):=by
 have hs:=cu a b ha hb (sw a b 0) (sw a b 1) (sw a b 2) (sw a b 3) (cy a b 1) (cy a b 2) (cy a b 3) (cy a b 4) (by simp[sw,cy]) (by simp[cy]) rfl rfl rfl rfl rfl rfl;have hN:=jy hs.1 (fun i=>Nat.mod_lt _ Dtt);rw[← hs.2];generalize (a+b)%ze=s at *;refine Fn.enter Tryz.func237 rfl rfl rfl ?_;intro w hw
 repeat (first|refine Tk ?_|intro _|exact Tz)
 rename_i gA gB gR;refine WC.loopI (σ:=Nat) (fun k=>k≤4) (fun k=>[(2,Sx.pt gA),(3,Sx.pt gB),(4,Sx.pt gR),(5,.int .u64 ((cy a b k:Nat):Int)),(7,.int .i64 (k:Int))]) (fun k=>[⟨gR,24,acb (sw a b) k⟩,⟨gB,24,zc b⟩,⟨gA,24,zc a⟩]) (fun k=>4 - k) 0 (fun k hk=>?_) (Nat.zero_le _)
 try dsimp only at hk ⊢
 by_cases hlt:k<4
 ·have hcy:=ae8 a b k;have hadd2:IntKind.i64.wrap ((k:Int)+1)=((k+1:Nat):Int):=zl Om Om Om;have hE:=fun w=>tS (wd k a) (wd k b) (cy a b k) hcy w
  repeat (first|refine Tk ?_|intro _|exact Tz)
  refine WC.dT rfl Om ?_
  repeat (first|refine Tk ?_|intro _|exact Tz)
  refine WC.adrawF [11] 13 (k:=?_)
  iterate 2 refine Dx ?_
  refine Dx ?_;refine DQ.does (fun s _=>zx (hc:=vq a hlt)) Dp.const ?_;refine Dx ?_;refine Dx ?_;refine DQ.does (fun s _=>zx (hc:=vq b hlt)) Dp.const ?_;refine Dx ?_;refine DQ.does (fun s _=>re hE rfl) Dp.const ?_
  repeat (first|refine Da ?_|refine Df ?_)
  refine DQ.anil (k:=?_);intro sx _
  repeat (first|refine WO.stores (zo (vs:=[.int .u64 ((sw a b k:Nat):Int)]) (cs':=acb (sw a b) (k+1)) (hc:=jN (sw a b) hlt) (hle:=by rw[j0,Nat.ble_eq];show k+1≤4;omega)) ?_|refine WO.does (zi rfl rfl hadd2) ?_|refine Tj ?_|intro _|refine Tc ?_|exact Tz)
  exact WX.metI (k+1) (hs:=⟨by show k+1≤4;omega,by show 4 - (k+1)<4 - k;omega⟩)
 ·obtain rfl:k=4:=by omega
  rw[hN]
  repeat (first|refine Tk ?_|intro _|exact Tz)
  done
end Sx
end
end Go.Proofs.YtiaibpcaloigkaaGreatDoor
