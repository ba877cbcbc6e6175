/- Part 14 of the proof. -/
import Derived.Test.YteibfbjpkjkejaaGreatDoorM07
import Derived.Test.YteibfbjpkjkejaaGreatDoorM13
set_option linter.unusedSimpArgs false
set_option linter.unusedVariables false
namespace Go.Proofs.YteibfbjpkjkejaaGreatDoor
section
open Go Go.RowKit
namespace Sx
theorem Fn.of {P:Program} {f:FuncId} {args:List Value} {v:Value} (h:∀ w,Calls P f args.toArray w fun e w'=>e=.returned v∧Below w.heap.size w w'):Fn P f args Tr (Is v) :=
 fun w _=>(h w).mono fun _ _ ⟨h1,h2⟩=>⟨v,[],h1,h2,.nil _ _,rfl⟩
theorem yP : 1<zd:=by unfold zd;omega
theorem tR {n:Nat} (h:n<18446744073709551616):n<zd:=by unfold zd;omega
theorem ci (n:Nat) (h:n<18446744073709551616:=by omega):Fn Tryz.prog 37 [.int .u64 (n:Int)] Tr (Is (zi n)):=.of fun w=>kz n h w
theorem vZ:Fn Tryz.prog 37 [.int .u64 1] Tr (Is (zi 1)):=ci 1
theorem nL:Fn Tryz.prog 37 [.int .u64 0] Tr (Is (zi 0)):=ci 0
theorem mP (a b:Nat) (ha:a<zd) (hb:b<zd):Fn Tryz.prog 19 [zi a,zi b] Tr (Is (.int .i64 (uE a b))):=.of fun w=>ga a b ha hb w
theorem oO (a:Nat) (ha:a<zd):Fn Tryz.prog 78 [zi a] Tr (Is (.int .i64 (zF a:Nat))):=.of fun w=>uV a ha w
theorem adQ (a:Nat) (i:Int) (ha:a<zd) (h0:0≤i) (h1:i≤1000000):Fn Tryz.prog 116 [zi a,.int .i64 i] Tr (Is (.int .u64 (uh a i.toNat:Nat))):=.of fun w=>rq a i ha h0 h1 w
theorem aaj (a b:Nat) (ha:a<zd) (hb:b<zd):Fn Tryz.prog 157 [zi a,zi b] Tr (Is (.tuple #[zi ((a+b)%zd),.int .u64 (((a+b) / zd:Nat):Int)])):=.of fun w=>nm a b ha hb w
theorem aai (a b:Nat) (ha:a<zd) (hb:b<zd):Fn Tryz.prog 39 [zi a,zi b] Tr (Is (.tuple #[zi ((a+zd - b)%zd),.int .u64 ((bw a b 0:Nat):Int)])):=.of fun w=>tq a b ha hb w
theorem aer (a b:Nat) (ha:a<zd) (hb:b<zd) (h0:0<b):Fn Tryz.prog 173 [zi a,zi b] Tr (Is (.tuple #[zi (a / b),zi (a%b),.int .i64 0])):=.of fun w=>rM a b ha hb h0 w
theorem ad (a b:Nat) (ha:a<zd) (hb:b<zd):Fn Tryz.prog 172 [zi a,zi b] Tr (Is (zi (Nat.gcd a b))):=.of fun w=>ql a b ha hb w
theorem ac7 (lo hi m:Nat) (hlo:lo<zd) (hhi:hi<zd) (hm:m<zd) (h0:0<m):Fn Tryz.prog 120 [zi lo,zi hi,zi m] Tr (Is (.tuple #[zi ((hi*zd+lo)%m),.int .i64 0])):=.of fun w=>sG lo hi m hlo hhi hm h0 w
theorem lw (a b m:Nat) (ha:a<m) (hb:b<m) (hm:m<zd):Fn Tryz.prog 84 [zi a,zi b,zi m] Tr (Is (zi (a*b%m))):=.of fun w=>iB a b m ha hb hm w
theorem acT (a b m:Nat) (ha:a<m) (hb:b<m) (hm:m<18446744073709551616):Fn Tryz.prog 81 [.int .u64 (a:Int),.int .u64 (b:Int),.int .u64 (m:Int)] Tr (Is (.int .u64 ((a*b%m:Nat):Int))):=.of fun w=>nO a b m ha hb hm w
section
variable {w0:World} {gs:List Nat} {K:List (Nat × Value)} {L:List Ent}
theorem uA (op:BinOp) (x y:Operand) (a b:Array Value) (w:World):(eqGuard op 24 x y (.agg a) (.agg b)).run Tryz.prog w=.ok () w:=by
 cases op<;>kernel_rfl
theorem yq {x y:Operand} {yt ty:TypeId} {a b:Nat} (hx:ev K x=some (zi a):=by rfl) (hy:ev K y=some (zi b):=by rfl) (ha:a<zd:=by first|assumption|omega|exact yP|exact zA) (hb:b<zd:=by first|assumption|omega|exact yP|exact zA) :
  Does Tryz.prog w0 gs K L (.binOp .eql 24 x y yt) ty (.bool (decide (a=b))):=by
 intro ac w hk _ o ho _;have h1:=qB ha hb w;simp only[execOp,ho,hk.eval hx,hk.eval hy,Sem.run_bind,uA,Result.andThen_ok,h1,Sem.run_pure];rfl
theorem vw {x y:Operand} {yt ty:TypeId} {a b:Nat} (hx:ev K x=some (zi a):=by rfl) (hy:ev K y=some (zi b):=by rfl) (ha:a<zd:=by first|assumption|omega|exact yP|exact zA) (hb:b<zd:=by first|assumption|omega|exact yP|exact zA) :
  Does Tryz.prog w0 gs K L (.binOp .neq 24 x y yt) ty (.bool (decide (a≠b))):=by
 intro ac w hk _ o ho _;have h1:=yb ha hb w;have h2:(binOp .neq 24 (zi a) (zi b)).run Tryz.prog w=.ok (.bool (!eqN a b)) w:=by
  show ((do pure (.bool (!(← Op.equal 24 (zi a) (zi b)))):Sem Value)).run Tryz.prog w=_;simp only[Sem.run_bind];show ((Op.equalIn 10000 24 (zi a) (zi b)).run Tryz.prog w).andThen _=_;rw[h1];rfl
 simp only[execOp,ho,hk.eval hx,hk.eval hy,Sem.run_bind,uA,Result.andThen_ok,h2,Sem.run_pure];simp[eqN]
end
section
variable {p q:Prop}
theorem Tc (k:p) (h:p→q:=by first|exact fun k=>Tb k|exact fun k=>WO.does yq k|exact fun k=>WO.does vw k):q:=h k
theorem Tw (k:p) (h:p→q:=by first|exact fun k=>Ta k|exact fun k=>Tc k):q:=h k
theorem Df (k:p) (h:p→q:=by first|exact fun k=>DQ.auto (k:=k)|exact fun k=>DQ.autoF (k:=k)|exact fun k=>DQ.does (fun s _=>yq) Dp.const k|exact fun k=>DQ.does (fun s _=>vw) Dp.const k):q:=h k
theorem Dc (k:p) (h:p→q:=by first|exact fun k=>DQ.auto (k:=k)|exact fun k=>DQ.does (fun s _=>yq) Dp.const k|exact fun k=>DQ.does (fun s _=>vw) Dp.const k):q:=h k
end
end Sx
end
end Go.Proofs.YteibfbjpkjkejaaGreatDoor
