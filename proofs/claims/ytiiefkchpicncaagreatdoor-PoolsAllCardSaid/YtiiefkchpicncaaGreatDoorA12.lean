/- Part 12 of the proof. -/
import Derived.Test.YtiiefkchpicncaaGreatDoorA04
import Derived.Test.YtiiefkchpicncaaGreatDoorA11
set_option linter.unusedSimpArgs false
set_option linter.unusedVariables false
namespace Go.Proofs.YtiiefkchpicncaaGreatDoor
section
open Go Go.RowKit
namespace Sx
theorem Fn.of {P:Program} {f:FuncId} {args:List Value} {v:Value} (h:∀ w,Calls P f args.toArray w fun e w'=>e=.returned v∧Below w.heap.size w w'):Fn P f args Tr (Is v) :=
 fun w _=>(h w).mono fun _ _ ⟨h1,h2⟩=>⟨v,[],h1,h2,.nil _ _,rfl⟩
theorem yK : 1<zd:=by unfold zd;omega
theorem tW {n:Nat} (h:n<18446744073709551616):n<zd:=by unfold zd;omega
theorem ai (n:Nat) (h:n<18446744073709551616:=by omega):Fn Tryz.prog 52 [.int .u64 (n:Int)] Tr (Is (zj n)):=.of fun w=>jt n h w
theorem vP:Fn Tryz.prog 52 [.int .u64 1] Tr (Is (zj 1)):=ai 1
theorem na:Fn Tryz.prog 52 [.int .u64 0] Tr (Is (zj 0)):=ai 0
theorem lR (a b:Nat) (ha:a<zd) (hb:b<zd):Fn Tryz.prog 25 [zj a,zj b] Tr (Is (.int .i64 (uF a b))):=.of fun w=>ft a b ha hb w
theorem oX (a:Nat) (ha:a<zd):Fn Tryz.prog 106 [zj a] Tr (Is (.int .i64 (zC a:Nat))):=.of fun w=>uT a ha w
theorem ad3 (a:Nat) (i:Int) (ha:a<zd) (h0:0≤i) (h1:i≤1000000):Fn Tryz.prog 152 [zj a,.int .i64 i] Tr (Is (.int .u64 (uf a i.toNat:Nat))):=.of fun w=>rx a i ha h0 h1 w
theorem aao (a b:Nat) (ha:a<zd) (hb:b<zd):Fn Tryz.prog 203 [zj a,zj b] Tr (Is (.tuple #[zj ((a+b)%zd),.int .u64 (((a+b) / zd:Nat):Int)])):=.of fun w=>nk a b ha hb w
theorem aax (a b:Nat) (ha:a<zd) (hb:b<zd):Fn Tryz.prog 54 [zj a,zj b] Tr (Is (.tuple #[zj ((a+zd - b)%zd),.int .u64 ((bw a b 0:Nat):Int)])):=.of fun w=>tm a b ha hb w
theorem aeQ (a b:Nat) (ha:a<zd) (hb:b<zd) (h0:0<b):Fn Tryz.prog 192 [zj a,zj b] Tr (Is (.tuple #[zj (a / b),zj (a%b),.int .i64 0])):=.of fun w=>rc a b ha hb h0 w
theorem bg (a b:Nat) (ha:a<zd) (hb:b<zd):Fn Tryz.prog 191 [zj a,zj b] Tr (Is (zj (Nat.gcd a b))):=.of fun w=>qj a b ha hb w
theorem ad4 (lo hi m:Nat) (hlo:lo<zd) (hhi:hi<zd) (hm:m<zd) (h0:0<m):Fn Tryz.prog 156 [zj lo,zj hi,zj m] Tr (Is (.tuple #[zj ((hi*zd+lo)%m),.int .i64 0])):=.of fun w=>sE lo hi m hlo hhi hm h0 w
theorem mY (a b m:Nat) (ha:a<m) (hb:b<m) (hm:m<zd):Fn Tryz.prog 112 [zj a,zj b,zj m] Tr (Is (zj (a*b%m))):=.of fun w=>iE a b m ha hb hm w
theorem adS (a b m:Nat) (ha:a<m) (hb:b<m) (hm:m<18446744073709551616):Fn Tryz.prog 109 [.int .u64 (a:Int),.int .u64 (b:Int),.int .u64 (m:Int)] Tr (Is (.int .u64 ((a*b%m:Nat):Int))):=.of fun w=>o8 a b m ha hb hm w
section
variable {w0:World} {gs:List Nat} {K:List (Nat × Value)} {L:List Ent}
theorem uN (op:BinOp) (x y:Operand) (a b:Array Value) (w:World):(eqGuard op 24 x y (.agg a) (.agg b)).run Tryz.prog w=.ok () w:=by
 cases op<;>kernel_rfl
theorem yp {x y:Operand} {yt ty:TypeId} {a b:Nat} (hx:ev K x=some (zj a):=by rfl) (hy:ev K y=some (zj b):=by rfl) (ha:a<zd:=by first|assumption|omega|exact yK|exact zy) (hb:b<zd:=by first|assumption|omega|exact yK|exact zy) :
  Does Tryz.prog w0 gs K L (.binOp .eql 24 x y yt) ty (.bool (decide (a=b))):=by
 intro ac w hk _ o ho _;have h1:=qM ha hb w;simp only[execOp,ho,hk.eval hx,hk.eval hy,Sem.run_bind,uN,Result.andThen_ok,h1,Sem.run_pure];rfl
theorem vL {x y:Operand} {yt ty:TypeId} {a b:Nat} (hx:ev K x=some (zj a):=by rfl) (hy:ev K y=some (zj b):=by rfl) (ha:a<zd:=by first|assumption|omega|exact yK|exact zy) (hb:b<zd:=by first|assumption|omega|exact yK|exact zy) :
  Does Tryz.prog w0 gs K L (.binOp .neq 24 x y yt) ty (.bool (decide (a≠b))):=by
 intro ac w hk _ o ho _;have h1:=zY ha hb w;have h2:(binOp .neq 24 (zj a) (zj b)).run Tryz.prog w=.ok (.bool (!eqN a b)) w:=by
  show ((do pure (.bool (!(← Op.equal 24 (zj a) (zj b)))):Sem Value)).run Tryz.prog w=_;simp only[Sem.run_bind];show ((Op.equalIn 10000 24 (zj a) (zj b)).run Tryz.prog w).andThen _=_;rw[h1];rfl
 simp only[execOp,ho,hk.eval hx,hk.eval hy,Sem.run_bind,uN,Result.andThen_ok,h2,Sem.run_pure];simp[eqN]
end
section
variable {p q:Prop}
theorem Tc (k:p) (h:p→q:=by first|exact fun k=>Tb k|exact fun k=>WO.does yp k|exact fun k=>WO.does vL k):q:=h k
theorem Tw (k:p) (h:p→q:=by first|exact fun k=>Ta k|exact fun k=>Tc k):q:=h k
theorem Df (k:p) (h:p→q:=by first|exact fun k=>DQ.auto (k:=k)|exact fun k=>DQ.autoF (k:=k)|exact fun k=>DQ.does (fun s _=>yp) Dp.const k|exact fun k=>DQ.does (fun s _=>vL) Dp.const k):q:=h k
theorem Dc (k:p) (h:p→q:=by first|exact fun k=>DQ.auto (k:=k)|exact fun k=>DQ.does (fun s _=>yp) Dp.const k|exact fun k=>DQ.does (fun s _=>vL) Dp.const k):q:=h k
end
end Sx
end
end Go.Proofs.YtiiefkchpicncaaGreatDoor
