/- Part 13 of the proof. -/
import Derived.Test.YteibfbjpkjkejaaGreatDoorS07
import Derived.Test.YteibfbjpkjkejaaGreatDoorS12
set_option linter.unusedSimpArgs false
set_option linter.unusedVariables false
namespace Go.Proofs.YteibfbjpkjkejaaGreatDoor
section
open Go Go.RowKit
namespace Sx
theorem Fn.of {P:Program} {f:FuncId} {args:List Value} {v:Value} (h:∀ w,Calls P f args.toArray w fun e w'=>e=.returned v∧Below w.heap.size w w'):Fn P f args Tr (Is v) :=
 fun w _=>(h w).mono fun _ _ ⟨h1,h2⟩=>⟨v,[],h1,h2,.nil _ _,rfl⟩
theorem yP : 1<zd:=by unfold zd;omega
theorem sr {n:Nat} (h:n<18446744073709551616):n<zd:=by unfold zd;omega
theorem aH (n:Nat) (h:n<18446744073709551616:=by omega):Fn Tryz.prog 37 [.int .u64 (n:Int)] Tr (Is (zj n)):=.of fun w=>jr n h w
theorem v8:Fn Tryz.prog 37 [.int .u64 1] Tr (Is (zj 1)):=aH 1
theorem nA:Fn Tryz.prog 37 [.int .u64 0] Tr (Is (zj 0)):=aH 0
theorem kf (a b:Nat) (ha:a<zd) (hb:b<zd):Fn Tryz.prog 19 [zj a,zj b] Tr (Is (.int .i64 (uU a b))):=.of fun w=>dk a b ha hb w
theorem mC (a:Nat) (ha:a<zd):Fn Tryz.prog 78 [zj a] Tr (Is (.int .i64 (zF a:Nat))):=.of fun w=>u4 a ha w
theorem adM (a:Nat) (i:Int) (ha:a<zd) (h0:0≤i) (h1:i≤1000000):Fn Tryz.prog 116 [zj a,.int .i64 i] Tr (Is (.int .u64 (uk a i.toNat:Nat))):=.of fun w=>rQ a i ha h0 h1 w
theorem aaU (a b:Nat) (ha:a<zd) (hb:b<zd):Fn Tryz.prog 157 [zj a,zj b] Tr (Is (.tuple #[zj ((a+b)%zd),.int .u64 (((a+b) / zd:Nat):Int)])):=.of fun w=>mP a b ha hb w
theorem aaR (a b:Nat) (ha:a<zd) (hb:b<zd):Fn Tryz.prog 39 [zj a,zj b] Tr (Is (.tuple #[zj ((a+zd - b)%zd),.int .u64 ((bw a b 0:Nat):Int)])):=.of fun w=>tQ a b ha hb w
theorem aey (a b:Nat) (ha:a<zd) (hb:b<zd) (h0:0<b):Fn Tryz.prog 173 [zj a,zj b] Tr (Is (.tuple #[zj (a / b),zj (a%b),.int .i64 0])):=.of fun w=>qk a b ha hb h0 w
theorem aj (a b:Nat) (ha:a<zd) (hb:b<zd):Fn Tryz.prog 172 [zj a,zj b] Tr (Is (zj (Nat.gcd a b))):=.of fun w=>qQ a b ha hb w
theorem ac8 (lo hi m:Nat) (hlo:lo<zd) (hhi:hi<zd) (hm:m<zd) (h0:0<m):Fn Tryz.prog 120 [zj lo,zj hi,zj m] Tr (Is (.tuple #[zj ((hi*zd+lo)%m),.int .i64 0])):=.of fun w=>sY lo hi m hlo hhi hm h0 w
theorem mY (a b m:Nat) (ha:a<m) (hb:b<m) (hm:m<zd):Fn Tryz.prog 84 [zj a,zj b,zj m] Tr (Is (zj (a*b%m))):=.of fun w=>j6 a b m ha hb hm w
theorem adl (a b m:Nat) (ha:a<m) (hb:b<m) (hm:m<18446744073709551616):Fn Tryz.prog 81 [.int .u64 (a:Int),.int .u64 (b:Int),.int .u64 (m:Int)] Tr (Is (.int .u64 ((a*b%m:Nat):Int))):=.of fun w=>nu a b m ha hb hm w
section
variable {w0:World} {gs:List Nat} {K:List (Nat × Value)} {L:List Ent}
theorem uI (op:BinOp) (x y:Operand) (a b:Array Value) (w:World):(eqGuard op 24 x y (.agg a) (.agg b)).run Tryz.prog w=.ok () w:=by
 cases op<;>kernel_rfl
theorem yv {x y:Operand} {yt ty:TypeId} {a b:Nat} (hx:ev K x=some (zj a):=by rfl) (hy:ev K y=some (zj b):=by rfl) (ha:a<zd:=by first|assumption|omega|exact yP|exact zD) (hb:b<zd:=by first|assumption|omega|exact yP|exact zD) :
  Does Tryz.prog w0 gs K L (.binOp .eql 24 x y yt) ty (.bool (decide (a=b))):=by
 intro ac w hk _ o ho _;have h1:=pj ha hb w;simp only[execOp,ho,hk.eval hx,hk.eval hy,Sem.run_bind,uI,Result.andThen_ok,h1,Sem.run_pure];rfl
theorem vx {x y:Operand} {yt ty:TypeId} {a b:Nat} (hx:ev K x=some (zj a):=by rfl) (hy:ev K y=some (zj b):=by rfl) (ha:a<zd:=by first|assumption|omega|exact yP|exact zD) (hb:b<zd:=by first|assumption|omega|exact yP|exact zD) :
  Does Tryz.prog w0 gs K L (.binOp .neq 24 x y yt) ty (.bool (decide (a≠b))):=by
 intro ac w hk _ o ho _;have h1:=yd ha hb w;have h2:(binOp .neq 24 (zj a) (zj b)).run Tryz.prog w=.ok (.bool (!eqN a b)) w:=by
  show ((do pure (.bool (!(← Op.equal 24 (zj a) (zj b)))):Sem Value)).run Tryz.prog w=_;simp only[Sem.run_bind];show ((Op.equalIn 10000 24 (zj a) (zj b)).run Tryz.prog w).andThen _=_;rw[h1];rfl
 simp only[execOp,ho,hk.eval hx,hk.eval hy,Sem.run_bind,uI,Result.andThen_ok,h2,Sem.run_pure];simp[eqN]
end
section
variable {p q:Prop}
theorem Tc (k:p) (h:p→q:=by first|exact fun k=>Tb k|exact fun k=>WO.does yv k|exact fun k=>WO.does vx k):q:=h k
theorem Tw (k:p) (h:p→q:=by first|exact fun k=>Ta k|exact fun k=>Tc k):q:=h k
theorem Df (k:p) (h:p→q:=by first|exact fun k=>DQ.auto (k:=k)|exact fun k=>DQ.autoF (k:=k)|exact fun k=>DQ.does (fun s _=>yv) Dp.const k|exact fun k=>DQ.does (fun s _=>vx) Dp.const k):q:=h k
theorem Dc (k:p) (h:p→q:=by first|exact fun k=>DQ.auto (k:=k)|exact fun k=>DQ.does (fun s _=>yv) Dp.const k|exact fun k=>DQ.does (fun s _=>vx) Dp.const k):q:=h k
end
end Sx
end
end Go.Proofs.YteibfbjpkjkejaaGreatDoor
