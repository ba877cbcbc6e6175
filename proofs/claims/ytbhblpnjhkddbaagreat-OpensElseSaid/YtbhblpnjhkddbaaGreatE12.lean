/- Part 12 of the proof. -/
import Derived.Test.YtbhblpnjhkddbaaGreatE06
import Derived.Test.YtbhblpnjhkddbaaGreatE11
set_option linter.unusedSimpArgs false
set_option linter.unusedVariables false
namespace Go.Proofs.YtbhblpnjhkddbaaGreat
section
open Go Go.RowKit
namespace Sx
theorem Fn.of {P:Program} {f:FuncId} {args:List Value} {v:Value} (h:∀ w,Calls P f args.toArray w fun e w'=>e=.returned v∧Below w.heap.size w w'):Fn P f args Tr (Is v) :=
 fun w _=>(h w).mono fun _ _ ⟨h1,h2⟩=>⟨v,[],h1,h2,.nil _ _,rfl⟩
theorem vi : 1<zc:=by unfold zc;omega
theorem sW {n:Nat} (h:n<18446744073709551616):n<zc:=by unfold zc;omega
theorem ab (n:Nat) (h:n<18446744073709551616:=by omega):Fn Tryz.prog 52 [.int .u64 (n:Int)] Tr (Is (ze n)):=.of fun w=>mZ n h w
theorem vS:Fn Tryz.prog 52 [.int .u64 1] Tr (Is (ze 1)):=ab 1
theorem oS:Fn Tryz.prog 52 [.int .u64 0] Tr (Is (ze 0)):=ab 0
theorem ng (a b:Nat) (ha:a<zc) (hb:b<zc):Fn Tryz.prog 22 [ze a,ze b] Tr (Is (.int .i64 (uo a b))):=.of fun w=>gm a b ha hb w
theorem rT (a:Nat) (ha:a<zc):Fn Tryz.prog 90 [ze a] Tr (Is (.int .i64 (zy a:Nat))):=.of fun w=>uJ a ha w
theorem abc (a:Nat) (i:Int) (ha:a<zc) (h0:0≤i) (h1:i≤1000000):Fn Tryz.prog 152 [ze a,.int .i64 i] Tr (Is (.int .u64 (ud a i.toNat:Nat))):=.of fun w=>rK a i ha h0 h1 w
theorem bH (a b:Nat) (ha:a<zc) (hb:b<zc):Fn Tryz.prog 146 [ze a,ze b] Tr (Is (.tuple #[ze ((a+b)%zc),.int .u64 (((a+b) / zc:Nat):Int)])):=.of fun w=>nj a b ha hb w
theorem bV (a b:Nat) (ha:a<zc) (hb:b<zc):Fn Tryz.prog 53 [ze a,ze b] Tr (Is (.tuple #[ze ((a+zc - b)%zc),.int .u64 ((bw a b 0:Nat):Int)])):=.of fun w=>tu a b ha hb w
theorem acp (a b:Nat) (ha:a<zc) (hb:b<zc) (h0:0<b):Fn Tryz.prog 112 [ze a,ze b] Tr (Is (.tuple #[ze (a / b),ze (a%b),.int .i64 0])):=.of fun w=>rf a b ha hb h0 w
theorem bm (a b:Nat) (ha:a<zc) (hb:b<zc):Fn Tryz.prog 111 [ze a,ze b] Tr (Is (ze (Nat.gcd a b))):=.of fun w=>qm a b ha hb w
theorem ab1 (lo hi m:Nat) (hlo:lo<zc) (hhi:hi<zc) (hm:m<zc) (h0:0<m):Fn Tryz.prog 124 [ze lo,ze hi,ze m] Tr (Is (.tuple #[ze ((hi*zc+lo)%m),.int .i64 0])):=.of fun w=>sr lo hi m hlo hhi hm h0 w
theorem nW (a b m:Nat) (ha:a<m) (hb:b<m) (hm:m<zc):Fn Tryz.prog 95 [ze a,ze b,ze m] Tr (Is (ze (a*b%m))):=.of fun w=>kT a b m ha hb hm w
theorem aa4 (a b m:Nat) (ha:a<m) (hb:b<m) (hm:m<18446744073709551616):Fn Tryz.prog 116 [.int .u64 (a:Int),.int .u64 (b:Int),.int .u64 (m:Int)] Tr (Is (.int .u64 ((a*b%m:Nat):Int))):=.of fun w=>oK a b m ha hb hm w
section
variable {w0:World} {gs:List Nat} {K:List (Nat × Value)} {L:List Ent}
theorem vG (op:BinOp) (x y:Operand) (a b:Array Value) (w:World):(eqGuard op 24 x y (.agg a) (.agg b)).run Tryz.prog w=.ok () w:=by
 cases op<;>kernel_rfl
theorem yl {x y:Operand} {yt ty:TypeId} {a b:Nat} (hx:ev K x=some (ze a):=by rfl) (hy:ev K y=some (ze b):=by rfl) (ha:a<zc:=by first|assumption|omega|exact vi|exact zz) (hb:b<zc:=by first|assumption|omega|exact vi|exact zz) :
  Does Tryz.prog w0 gs K L (.binOp .eql 24 x y yt) ty (.bool (decide (a=b))):=by
 intro ac w hk _ o ho _;have h1:=qz ha hb w;simp only[execOp,ho,hk.eval hx,hk.eval hy,Sem.run_bind,vG,Result.andThen_ok,h1,Sem.run_pure];rfl
theorem vq {x y:Operand} {yt ty:TypeId} {a b:Nat} (hx:ev K x=some (ze a):=by rfl) (hy:ev K y=some (ze b):=by rfl) (ha:a<zc:=by first|assumption|omega|exact vi|exact zz) (hb:b<zc:=by first|assumption|omega|exact vi|exact zz) :
  Does Tryz.prog w0 gs K L (.binOp .neq 24 x y yt) ty (.bool (decide (a≠b))):=by
 intro ac w hk _ o ho _;have h1:=zX ha hb w;have h2:(binOp .neq 24 (ze a) (ze b)).run Tryz.prog w=.ok (.bool (!eqN a b)) w:=by
  show ((do pure (.bool (!(← Op.equal 24 (ze a) (ze b)))):Sem Value)).run Tryz.prog w=_;simp only[Sem.run_bind];show ((Op.equalIn 10000 24 (ze a) (ze b)).run Tryz.prog w).andThen _=_;rw[h1];rfl
 simp only[execOp,ho,hk.eval hx,hk.eval hy,Sem.run_bind,vG,Result.andThen_ok,h2,Sem.run_pure];simp[eqN]
end
section
variable {p q:Prop}
theorem Tc (k:p) (h:p→q:=by first|exact fun k=>Tb k|exact fun k=>WO.does yl k|exact fun k=>WO.does vq k):q:=h k
theorem Tw (k:p) (h:p→q:=by first|exact fun k=>Ta k|exact fun k=>Tc k):q:=h k
theorem Df (k:p) (h:p→q:=by first|exact fun k=>DQ.auto (k:=k)|exact fun k=>DQ.autoF (k:=k)|exact fun k=>DQ.does (fun s _=>yl) Dp.const k|exact fun k=>DQ.does (fun s _=>vq) Dp.const k):q:=h k
theorem Dc (k:p) (h:p→q:=by first|exact fun k=>DQ.auto (k:=k)|exact fun k=>DQ.does (fun s _=>yl) Dp.const k|exact fun k=>DQ.does (fun s _=>vq) Dp.const k):q:=h k
end
end Sx
end
end Go.Proofs.YtbhblpnjhkddbaaGreat
