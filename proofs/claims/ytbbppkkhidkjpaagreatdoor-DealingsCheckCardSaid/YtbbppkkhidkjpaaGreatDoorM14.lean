/- Part 14 of the proof. -/
import Derived.Test.YtbbppkkhidkjpaaGreatDoorM09
import Derived.Test.YtbbppkkhidkjpaaGreatDoorM13
set_option linter.unusedSimpArgs false
set_option linter.unusedVariables false
set_option maxHeartbeats 8000000
namespace Go.Proofs.YtbbppkkhidkjpaaGreatDoor
section
open Go Go.RowKit
namespace Sx
theorem Fn.of {P:Program} {f:FuncId} {args:List Value} {v:Value} (h:∀ w,Calls P f args.toArray w fun e w'=>e=.returned v∧Below w.heap.size w w'):Fn P f args Tr (Is v) :=
 fun w _=>(h w).mono fun _ _ ⟨h1,h2⟩=>⟨v,[],h1,h2,.nil _ _,rfl⟩
theorem yA : 1<zb:=by unfold zb;omega
theorem vE {n:Nat} (h:n<18446744073709551616):n<zb:=by unfold zb;omega
theorem acd (n:Nat) (h:n<18446744073709551616:=by omega):Fn Tryz.prog 59 [.int .u64 (n:Int)] Tr (Is (zf n)):=.of fun w=>jx n h w
theorem uz:Fn Tryz.prog 59 [.int .u64 1] Tr (Is (zf 1)):=acd 1
theorem mM:Fn Tryz.prog 59 [.int .u64 0] Tr (Is (zf 0)):=acd 0
theorem gu (a b:Nat) (ha:a<zb) (hb:b<zb):Fn Tryz.prog 125 [zf a,zf b] Tr (Is (.int .i64 (vG a b))):=.of fun w=>dy a b ha hb w
theorem li (a:Nat) (ha:a<zb):Fn Tryz.prog 115 [zf a] Tr (Is (.int .i64 (zE a:Nat))):=.of fun w=>tz a ha w
theorem acz (a:Nat) (i:Int) (ha:a<zb) (h0:0≤i) (h1:i≤1000000):Fn Tryz.prog 202 [zf a,.int .i64 i] Tr (Is (.int .u64 (vb a i.toNat:Nat))):=.of fun w=>qx a i ha h0 h1 w
theorem aaY (a b:Nat) (ha:a<zb) (hb:b<zb):Fn Tryz.prog 175 [zf a,zf b] Tr (Is (.tuple #[zf ((a+b)%zb),.int .u64 (((a+b) / zb:Nat):Int)])):=.of fun w=>lq a b ha hb w
theorem aav (a b:Nat) (ha:a<zb) (hb:b<zb):Fn Tryz.prog 176 [zf a,zf b] Tr (Is (.tuple #[zf ((a+zb - b)%zb),.int .u64 ((bw a b 0:Nat):Int)])):=.of fun w=>sa a b ha hb w
theorem ad5 (a b:Nat) (ha:a<zb) (hb:b<zb) (h0:0<b):Fn Tryz.prog 208 [zf a,zf b] Tr (Is (.tuple #[zf (a / b),zf (a%b),.int .i64 0])):=.of fun w=>pj a b ha hb h0 w
theorem aaj (a b:Nat) (ha:a<zb) (hb:b<zb):Fn Tryz.prog 207 [zf a,zf b] Tr (Is (zf (Nat.gcd a b))):=.of fun w=>pu a b ha hb w
theorem ac9 (lo hi m:Nat) (hlo:lo<zb) (hhi:hi<zb) (hm:m<zb) (h0:0<m):Fn Tryz.prog 183 [zf lo,zf hi,zf m] Tr (Is (.tuple #[zf ((hi*zb+lo)%m),.int .i64 0])):=.of fun w=>r7 lo hi m hlo hhi hm h0 w
theorem kR (a b m:Nat) (ha:a<m) (hb:b<m) (hm:m<zb):Fn Tryz.prog 168 [zf a,zf b,zf m] Tr (Is (zf (a*b%m))):=.of fun w=>iz a b m ha hb hm w
theorem adD (a b m:Nat) (ha:a<m) (hb:b<m) (hm:m<18446744073709551616):Fn Tryz.prog 165 [.int .u64 (a:Int),.int .u64 (b:Int),.int .u64 (m:Int)] Tr (Is (.int .u64 ((a*b%m:Nat):Int))):=.of fun w=>mX a b m ha hb hm w
section
variable {w0:World} {gs:List Nat} {K:List (Nat × Value)} {L:List Ent}
theorem ub (op:BinOp) (x y:Operand) (a b:Array Value) (w:World):(eqGuard op 24 x y (.agg a) (.agg b)).run Tryz.prog w=.ok () w:=by
 cases op<;>kernel_rfl
theorem zZ {x y:Operand} {yt ty:TypeId} {a b:Nat} (hx:ev K x=some (zf a):=by rfl) (hy:ev K y=some (zf b):=by rfl) (ha:a<zb:=by first|assumption|omega|exact yA|exact zq) (hb:b<zb:=by first|assumption|omega|exact yA|exact zq) :
  Does Tryz.prog w0 gs K L (.binOp .eql 24 x y yt) ty (.bool (decide (a=b))):=by
 intro ac w hk _ o ho _;have h1:=pZ ha hb w;simp only[execOp,ho,hk.eval hx,hk.eval hy,Sem.run_bind,ub,Result.andThen_ok,h1,Sem.run_pure];rfl
theorem z7 {x y:Operand} {yt ty:TypeId} {a b:Nat} (hx:ev K x=some (zf a):=by rfl) (hy:ev K y=some (zf b):=by rfl) (ha:a<zb:=by first|assumption|omega|exact yA|exact zq) (hb:b<zb:=by first|assumption|omega|exact yA|exact zq) :
  Does Tryz.prog w0 gs K L (.binOp .neq 24 x y yt) ty (.bool (decide (a≠b))):=by
 intro ac w hk _ o ho _;have h1:=yj ha hb w;have h2:(binOp .neq 24 (zf a) (zf b)).run Tryz.prog w=.ok (.bool (!eqN a b)) w:=by
  show ((do pure (.bool (!(← Op.equal 24 (zf a) (zf b)))):Sem Value)).run Tryz.prog w=_;simp only[Sem.run_bind];show ((Op.equalIn 10000 24 (zf a) (zf b)).run Tryz.prog w).andThen _=_;rw[h1];rfl
 simp only[execOp,ho,hk.eval hx,hk.eval hy,Sem.run_bind,ub,Result.andThen_ok,h2,Sem.run_pure];simp[eqN]
end
section
variable {p q:Prop}
theorem Tc (k:p) (h:p→q:=by first|exact fun k=>Tb k|exact fun k=>WO.does zZ k|exact fun k=>WO.does z7 k):q:=h k
theorem Tw (k:p) (h:p→q:=by first|exact fun k=>Ta k|exact fun k=>Tc k):q:=h k
theorem Df (k:p) (h:p→q:=by first|exact fun k=>DQ.auto (k:=k)|exact fun k=>DQ.autoF (k:=k)|exact fun k=>DQ.does (fun s _=>zZ) Dp.const k|exact fun k=>DQ.does (fun s _=>z7) Dp.const k):q:=h k
theorem Dc (k:p) (h:p→q:=by first|exact fun k=>DQ.auto (k:=k)|exact fun k=>DQ.does (fun s _=>zZ) Dp.const k|exact fun k=>DQ.does (fun s _=>z7) Dp.const k):q:=h k
end
end Sx
end
section
open Go Go.RowKit
namespace Sx
attribute [local irreducible] DQ DQS WC WO WX
def dgs:Nat→Nat→List Nat
 | 0,_=>[]
 | k+1,x=>x%65536::dgs k (x / 65536)
def yL:List Nat→Nat
 | []=>0
 | d::r=>d+65536*yL r
theorem yr:∀ (k x:Nat),(dgs k x).length=k
 | 0,_=>rfl
 | k+1,x=>by simp[dgs,yr k]
theorem kL:∀ {k i:Nat} (x:Nat),i<k→(dgs k x)[i]?=some (x / 65536 ^ i%65536)
 | 0,_,_,h=>by omega
 | k+1,0,x,_=>by simp[dgs]
 | k+1,i+1,x,h=>by
  simp only[dgs,List.getElem?_cons_succ];rw[kL (x / 65536) (by omega),Nat.div_div_eq_div_mul,Nat.pow_succ,Nat.mul_comm]
theorem pg:∀ (k x:Nat),∀ d∈dgs k x,d<65536
 | 0,_,d,h=>by cases h
 | k+1,x,d,h=>by
  rcases List.mem_cons.1 h with rfl|h
  ·exact Nat.mod_lt _ (by decide)
  ·exact pg k _ d h
theorem uO:∀ (k x:Nat),yL (dgs k x)=x%65536 ^ k
 | 0,x=>by simp[dgs,yL,Nat.mod_one]
 | k+1,x=>by
  simp only[dgs,yL];rw[uO k,Nat.pow_succ,Nat.mul_comm (65536 ^ k),Nat.mod_mul]
theorem tH:∀ (l m:List Nat),yL (l++m)=yL l+65536 ^ l.length*yL m
 | [],m=>by simp[yL]
 | d::r,m=>by
  simp only[List.cons_append,yL,tH r m,List.length_cons,Nat.pow_succ];rw[Nat.mul_add,Nat.mul_comm (65536 ^ r.length) 65536,Nat.mul_assoc,Nat.add_assoc]
theorem nc:∀ {l:List Nat},(∀ d∈l,d<65536)→yL l<65536 ^ l.length
 | [],_=>by simp[yL]
 | d::r,h=>by
  have h1:=nc (l:=r) (fun x hx=>h x (by simp[hx]));have h2:=h d (by simp);simp only[yL,List.length_cons,Nat.pow_succ];omega
theorem yk {l:List Nat} {i:Nat} (h:i<l.length):yL (l.take (i+1))=yL (l.take i)+65536 ^ i*l.getD i 0:=by
 rw[List.take_succ_eq_append_getElem h,tH,List.length_take,Nat.min_eq_left (by omega)];simp[yL,List.getD,h]
theorem zO:65536 ^ 16=zb:=by decide
theorem jw {l:List Nat} {i:Nat} (h:i<l.length):(woC l)[i]?=some (.int .u64 ((l.getD i 0:Nat):Int)):=by
 rw[eZ h];simp[List.getD,h]
theorem bH {l:List Nat} {i v:Nat} (h:i<l.length):over (woC l) i [.int .u64 (v:Int)]=woC (l.set i v):=by
 unfold over woC;simp only[List.length_cons,List.length_nil,Nat.zero_add];rw[List.set_eq_take_append_cons_drop,if_pos h];simp[List.map_take,List.map_drop]
theorem abE (l:List Nat):(woC l).all Value.oneCell'=true:=by simp[woC,Value.oneCell']
theorem aW (l:List Nat) (n:Nat):(woC l).take n=woC (l.take n):=by simp[woC,List.map_take]
theorem bv (l:List Nat) (n:Nat):(woC l).drop n=woC (l.drop n):=by simp[woC,List.map_drop]
theorem vi {a j:Nat} (h:j<4):(zc a)[j]?=some (.int .u64 ((wd j a:Nat):Int)):=by
 match j,h with
 | 0,_=>rfl
 | 1,_=>rfl
 | 2,_=>rfl
 | 3,_=>rfl
section
variable {P:Program} {w0:World} {gs:List Nat} {K:List (Nat × Value)} {L:List Ent}
theorem tF {t g i t' : Nat} {l:List Nat} {x:Operand} {ty:TypeId} [OnT P t] (hx:ev K x=some (.pointer (some ⟨g,i,none⟩)):=by rfl) (hm:Hs L g t' (woC l):=by (repeat (first|exact Hs.here|apply Hs.there))) (hi:i<l.length) :
  Does P w0 gs K L (.load t x) ty (.int .u64 ((l.getD i 0:Nat):Int)):=rf hx hm (jw hi)
theorem ck {t g j t' a:Nat} {x:Operand} {ty:TypeId} [OnT P t] (hx:ev K x=some (.pointer (some ⟨g,j,none⟩)):=by rfl) (hm:Hs L g t' (zc a):=by (repeat (first|exact Hs.here|apply Hs.there))) (hj:j<4) :
  Does P w0 gs K L (.load t x) ty (.int .u64 ((wd j a:Nat):Int)):=rf hx hm (vi hj)
theorem sh {t g i t' v:Nat} {l:List Nat} {x y:Operand} {ty:TypeId} {L' : List Ent} [OnT P t] (hx:ev K x=some (.pointer (some ⟨g,i,none⟩)):=by rfl) (hy:ev K y=some (.int .u64 (v:Int)):=by rfl)
  (hm:Hs L g t' (woC l):=by (repeat (first|exact Hs.here|apply Hs.there))) (hi:i<l.length) (hr:Rp L g t' (woC l) (woC (l.set i v)) L':=by (repeat (first|exact Rp.here|apply Rp.there))) (ht:t'≠0:=by decide) :
  r6 P w0 gs K L (.store t x y) ty L' :=
 rG (vs:=[.int .u64 (v:Int)]) hx hy rfl rfl rfl hr (bH hi) (by simp only[yp,List.length_cons,List.length_nil];omega) ht
theorem dC {cs:List Value} {n:Nat} (h:cs.length=n):cut cs 0 n=cs:=by simp[cut,← h]
theorem acQ {t n g t' : Nat} {l:List Nat} {x:Operand} {ty:TypeId} [AgT P t n] (hx:ev K x=some (.pointer (some ⟨g,0,none⟩)):=by rfl) (hm:Hs L g t' (woC l):=by (repeat (first|exact Hs.here|apply Hs.there))) (hl:l.length=n) :
  Does P w0 gs K L (.load t x) ty (.agg (woC l).toArray):=lu hx hm (dC (by rw[yp,hl])) (by rw[yp,hl])
theorem pd {t n g t' : Nat} {l:List Nat} {cs:List Value} {x y:Operand} {ty:TypeId} {L' : List Ent} [AgT P t n] (hx:ev K x=some (.pointer (some ⟨g,0,none⟩)):=by rfl) (hy:ev K y=some (.agg (woC l).toArray):=by rfl)
  (hm:Hs L g t' cs:=by (repeat (first|exact Hs.here|apply Hs.there))) (hl:l.length=n) (hc:cs.length=n) (hr:Rp L g t' cs (woC l) L':=by (repeat (first|exact Rp.here|apply Rp.there))) (ht:t'≠0:=by decide) :
  r6 P w0 gs K L (.store t x y) ty L' :=
 rG (vs:=woC l) hx hy (by simp[cellsOf]) (by rw[yp,hl]) (abE l) hr (by unfold over;rw[List.take_zero,List.nil_append,List.drop_eq_nil_of_le (by rw[yp];omega),List.append_nil]) (by rw[yp];omega) ht
theorem aaZ {p t g t' n:Nat} {l:List Nat} [AgT P t n] (hx:lk K p=some (.pointer (some ⟨g,0,none⟩)):=by rfl) (hm:Hs L g t' (woC l):=by (repeat (first|exact Hs.here|apply Hs.there))) (hl:l.length=n) :
  Rv P w0 gs K L (.cell p t) (.agg (woC l).toArray):=nb hx hm (dC (by rw[yp,hl])) (by rw[yp,hl])
end
theorem ra (i c:Nat) (h:i<9223372036854775808):IntKind.i64.wrap ((i:Int).tdiv (c:Int))=((i / c:Nat):Int):=by
 rw[Int.tdiv_eq_ediv_of_nonneg (by omega),← Int.natCast_ediv];have:=Nat.div_le_self i c;generalize i / c=q at *;exact i64_in (by omega) (by omega)
theorem qT (i c:Nat) (h:i<18446744073709551616):IntKind.u64.wrap ((i:Int).tdiv (c:Int))=((i / c:Nat):Int):=by
 rw[Int.tdiv_eq_ediv_of_nonneg (by omega),← Int.natCast_ediv];have:=Nat.div_le_self i c;generalize i / c=q at *;exact u64_in (by omega) (by omega)
theorem yP (i c:Nat):(i:Int).tmod (c:Int)=((i%c:Nat):Int):=by
 rw[Int.tmod_eq_emod_of_nonneg (by omega)];rfl
theorem o7 (i c:Nat) (h:i*c<9223372036854775808):IntKind.i64.wrap ((i:Int)*(c:Int))=((i*c:Nat):Int):=by
 rw[← Int.natCast_mul];exact i64_in (by omega) (by omega)
theorem kb (i c:Nat) (h:i*c<18446744073709551616):IntKind.u64.wrap ((i:Int)*(c:Int))=((i*c:Nat):Int):=by
 rw[← Int.natCast_mul];exact u64_in (by omega) (by omega)
theorem uy (i c:Nat) (h:i+c<18446744073709551616):IntKind.u64.wrap ((i:Int)+(c:Int))=((i+c:Nat):Int):=by
 rw[← Int.natCast_add];exact u64_in (by omega) (by omega)
theorem oT (i c:Nat) (h:c≤i) (h2:i<18446744073709551616):IntKind.u64.wrap ((i:Int) - (c:Int))=((i - c:Nat):Int):=by
 rw[← Int.natCast_sub h];exact u64_in (by omega) (by omega)
theorem nA (x e:Nat) (he:e≤64):((x:Nat):Int).fdiv (2 ^ min ((e:Int)).toNat IntKind.u64.bits)=((x / 2 ^ e:Nat):Int):=uG (k:=.u64) he
theorem eL (x e:Nat) (he:e≤64) (h:x*2 ^ e<18446744073709551616):IntKind.u64.wrap (((x:Nat):Int)*2 ^ (min ((e:Nat):Int).toNat IntKind.u64.bits))=((x*2 ^ e:Nat):Int):=by
 rw[show (min ((e:Nat):Int).toNat IntKind.u64.bits)=e from Nat.min_eq_left he,show ((2:Int) ^ e)=((2 ^ e:Nat):Int) by simp,← Int.natCast_mul];exact u64_in (by omega) (by omega)
theorem aF {a i:Nat} (ha:a<zb) (hi:i<16):wd (i / 4) a / 2 ^ (16*(i%4))%65536=a / 65536 ^ i%65536:=by
 unfold zb at ha
 match i,hi with
 | 0,_|1,_|2,_|3,_|4,_|5,_|6,_|7,_|8,_|9,_|10,_|11,_|12,_|13,_|14,_|15,_=>simp only[wd,Nat.reduceDiv,Nat.reduceMod,Nat.reduceMul,Nat.reducePow];omega
 | n+16,h=>omega
theorem aaQ (n:Nat) (h:n<18446744073709551616):Fn Tryz.prog 134 [.int .u64 (n:Int)] Tr (Is (zf n)):=by
 have e:Value.agg #[.int .u64 (n:Int),.int .u64 0,.int .u64 0,.int .u64 0]=zf n:=by
  have:=uT h (by decide:0<18446744073709551616) (by decide:0<18446744073709551616) (by decide:0<18446744073709551616);simpa [uZ] using this
 rw[← e];refine Fn.enter Tryz.func134 rfl rfl rfl ?_;intro w hw
 repeat (first|refine Tw ?_|(refine Tm ?_;intro _)|exact Tz)
def dga (l:List Nat) (i:Nat):List Nat:=l.take i++List.replicate (l.length - i) 0
theorem gr {l:List Nat} {i:Nat} (h:i≤l.length):(dga l i).length=l.length:=by simp[dga];omega
theorem bU (l:List Nat):dga l l.length=l:=by simp[dga]
theorem abU {l:List Nat} {i:Nat} (h:i<l.length):(dga l i).set i (l.getD i 0)=dga l (i+1):=by
 unfold dga;have e:i - (l.take i).length=0:=by simp;omega
 have g:l.getD i 0=l[i]:=by simp[List.getD,h]
 rw[List.set_append_right _ _ (by simp;omega),e,show l.length - i=(l.length - (i+1))+1 by omega,List.replicate_succ,List.set_cons_zero,List.take_succ_eq_append_getElem h,g,List.append_assoc];rfl
theorem vP (a:Nat) (ha:a<zb):Fn Tryz.prog 184 [zf a] Tr (Is (.agg (woC (dgs 16 a)).toArray)):=by
 have hlen:=yr 16 a;have hd:∀ i,i<16→wd (i / 4) a / 2 ^ (16*(i%4))%65536=(dgs 16 a).getD i 0:=fun i hi=>by
  rw[aF ha hi,List.getD,kL a hi];rfl
 generalize dgs 16 a=D at *;refine Fn.enter Tryz.func184 rfl rfl rfl ?_;intro w hw
 repeat (first|refine Tw ?_|(refine Tm ?_;intro _)|exact Tz)
 rename_i g1 g2 g3;refine WC.loopI (σ:=Nat) (fun i=>i≤16) (fun i=>[(1,pt g1),(2,pt g2),(3,pt g3),(4,.int .i64 (i:Int))]) (fun i=>[⟨g1,24,zc a⟩,⟨g2,216,woC (List.replicate 16 0)⟩,⟨g3,216,woC (dga D i)⟩]) (fun i=>16 - i) 0 (fun i hi=>?_) (Nat.zero_le _) (by repeat (first|exact Kle.nil|refine Kle.cons rfl rfl ?_)) (by
   rw[show dga D 0=List.replicate 16 0 by simp[dga,hlen]]
   repeat (first|exact Lle.nil|refine Lle.c ?_))
 try dsimp only at hi ⊢
 by_cases hlt:i<16
 ·have hq:=ra i 4 (by omega);have hr:=yP i 4;have hm:=o7 16 (i%4) (by omega);have hs:=nA (wd (i / 4) a) (16*(i%4)) (by omega);have hr2:=yP (wd (i / 4) a / 2 ^ (16*(i%4))) 65536;rw[hd i hlt] at hr2;have hset:=abU (l:=D) (i:=i) (by omega);have hl:=gr (l:=D) (i:=i) (by omega)
  repeat (first|refine Tw ?_|(refine Tm ?_;intro _)|exact Tz)
  refine WC.dT rfl (by omega) ?_
  repeat (first|refine Ta ?_|(refine Tm ?_;intro _)|refine WO.does (yy rfl rfl (by decide) hq) ?_|refine WO.does (ck (hj:=by omega)) ?_|refine WO.does (zP rfl rfl (by decide) hr) ?_|refine WO.does (z6 rfl rfl hm) ?_|refine WO.does (yW rfl rfl (by omega) hs) ?_|refine WO.does (zP rfl rfl (by decide) hr2) ?_|refine WO.stores (sh (hi:=by omega)) ?_|refine Tc ?_|exact Tz)
  rw[hset];refine WX.metI (i+1) (hs:=⟨by show i+1≤16;omega,by show 16 - (i+1)<16 - i;omega⟩)
 ·have hi16:i=16:=by omega
  have e:dga D i=D:=by rw[hi16,← hlen];exact bU D
  rw[e]
  repeat (first|refine Tw ?_|(refine Tm ?_;intro _)|exact Tz)
  refine WC.dF rfl (by omega) ?_
  repeat (first|exact WX.aret1 (hr:=aaZ (hl:=hlen)) (hp:=rfl)|refine Ta ?_|(refine Tm ?_;intro _)|refine WO.does (acQ (hl:=hlen)) ?_|refine WO.stores (pd (hl:=hlen) (hc:=by simp[yp])) ?_|refine Tc ?_|exact Tz)
def ofW (l:List Nat) (i:Nat):List Nat:=[yL ((l.take i).take 4),yL (((l.take i).drop 4).take 4),yL (((l.take i).drop 8).take 4),yL (((l.take i).drop 12).take 4)]
theorem kj {l:List Nat} (h:l.length=16):∃ a b c d e f g i j k m n o p q r,l=[a,b,c,d,e,f,g,i,j,k,m,n,o,p,q,r]:=by
 match l,h with
 | [a,b,c,d,e,f,g,i,j,k,m,n,o,p,q,r],_=>exact⟨a,b,c,d,e,f,g,i,j,k,m,n,o,p,q,r,rfl⟩
theorem aI (l:List Nat):ofW l 0=[0,0,0,0]:=rfl
theorem aw {l:List Nat} {i:Nat} (h:l.length=16) (hi:i<16):(ofW l i).set (i / 4) ((ofW l i).getD (i / 4) 0+l.getD i 0*2 ^ (16*(i%4)))=ofW l (i+1):=by
 obtain⟨a,b,c,d,e,f,g,u,j,k,m,n,o,p,q,r,rfl⟩:=kj h
 match i,hi with
 | 0,_|1,_|2,_|3,_|4,_|5,_|6,_|7,_|8,_|9,_|10,_|11,_|12,_|13,_|14,_|15,_ =>
  simp[ofW,yL]
  try omega
 | n+16,h=>omega
theorem ady {l:List Nat} {i:Nat} (h:l.length=16) (hl:∀ d∈l,d<65536) (hi:i<16):(ofW l i).getD (i / 4) 0+l.getD i 0*2 ^ (16*(i%4))<18446744073709551616:=by
 obtain⟨a,b,c,d,e,f,g,u,j,k,m,n,o,p,q,r,rfl⟩:=kj h;simp only[List.mem_cons,List.not_mem_nil,or_false,forall_eq_or_imp,forall_eq] at hl
 match i,hi with
 | 0,_|1,_|2,_|3,_|4,_|5,_|6,_|7,_|8,_|9,_|10,_|11,_|12,_|13,_|14,_|15,_ =>
  simp[ofW,yL];omega
 | n+16,h=>omega
theorem cT {l:List Nat} (h:l.length=16) (hl:∀ d∈l,d<65536):Value.agg (woC (ofW l 16)).toArray=zf (yL l):=by
 obtain⟨a,b,c,d,e,f,g,u,j,k,m,n,o,p,q,r,rfl⟩:=kj h;simp only[List.mem_cons,List.not_mem_nil,or_false,forall_eq_or_imp,forall_eq] at hl;have:=uT (a:=a+65536*(b+65536*(c+65536*d))) (b:=e+65536*(f+65536*(g+65536*u))) (c:=j+65536*(k+65536*(m+65536*n))) (d:=o+65536*(p+65536*(q+65536*r))) (by omega) (by omega) (by omega) (by omega);have e:uZ (a+65536*(b+65536*(c+65536*d))) (e+65536*(f+65536*(g+65536*u))) (j+65536*(k+65536*(m+65536*n))) (o+65536*(p+65536*(q+65536*r)))=yL [a,b,c,d,e,f,g,u,j,k,m,n,o,p,q,r]:=by
  simp only[uZ,yL];omega
 rw[← e,← this];rfl
theorem aec (l:List Nat) (b o c:Nat) (h:l.length=16) (hl:∀ d∈l,d<65536):Fn Tryz.prog 190 [.slice (some ⟨b,o,none⟩) 16 c] (fun w=>Seg w b o (woC l)) (Is (zf (yL l))):=by
 have hstep:=fun i (hi:i<16)=>aw (l:=l) h hi;have hlt2:=fun i (hi:i<16)=>ady (l:=l) h hl hi;have hfull:=cT h hl;have hz:=aI l;have hlen:∀ i,(ofW l i).length=4:=fun _=>rfl;rw[← hfull];generalize ofW l=F at *;refine Fn.enter Tryz.func190 rfl rfl rfl ?_;intro w hw
 repeat (first|refine Tw ?_|(refine Tm ?_;intro _)|exact Tz)
 rename_i g2 g3;refine WC.loopI (σ:=Nat) (fun i=>i≤16) (fun i=>[(0,.slice (some ⟨b,o,none⟩) 16 c),(2,pt g2),(3,pt g3),(4,.int .i64 (i:Int))]) (fun i=>[⟨g2,24,woC [0,0,0,0]⟩,⟨g3,24,woC (F i)⟩]) (fun i=>16 - i) 0 (fun i hi=>?_) (Nat.zero_le _) (by repeat (first|exact Kle.nil|refine Kle.cons rfl rfl ?_)) (by
   rw[hz]
   repeat (first|exact Lle.nil|refine Lle.c ?_))
 try dsimp only at hi ⊢
 by_cases hlt:i<16
 ·have hq:=ra i 4 (by omega);have hr:=yP i 4;have hm:=o7 16 (i%4) (by omega);have hs2:=hlt2 i hlt;have hs:=eL (l.getD i 0) (16*(i%4)) (by omega) (by omega);have ha:=uy ((F i).getD (i / 4) 0) (l.getD i 0*2 ^ (16*(i%4))) hs2;have hset:=hstep i hlt;have hli:=hlen i;have hget:(woC l)[o+i - o]?=some (.int .u64 ((l.getD i 0:Nat):Int)):=by rw[Nat.add_sub_cancel_left];exact jw (by omega)
  repeat (first|refine Tw ?_|(refine Tm ?_;intro _)|exact Tz)
  refine WC.dT rfl (by omega) ?_
  repeat (first|refine Tw ?_|(refine Tm ?_;intro _)|exact Tz)
  refine WC.adraw 16 (k:=?_)
  repeat (first|refine Da ?_|refine DQ.does (fun s _=>yy rfl rfl (by decide) hq) Dp.const ?_|refine DQ.does (fun s _=>tF (hi:=by omega)) Dp.const ?_|refine DQ.does (fun s _=>zP rfl rfl (by decide) hr) Dp.const ?_|refine DQ.does (fun s _=>z6 rfl rfl hm) Dp.const ?_|refine DQ.does (fun s _=>uN rfl rfl (by omega) hs) Dp.const ?_|refine DQ.does (fun s _=>zh rfl rfl ha) Dp.const ?_|refine Dc ?_)
  refine DQ.anil (k:=?_);intro sx _
  repeat (first|refine Ta ?_|(refine Tm ?_;intro _)|refine WO.stores (sh (hi:=by omega)) ?_|refine Tc ?_|exact Tz)
  rw[hset];refine WX.metI (i+1) (hs:=⟨by show i+1≤16;omega,by show 16 - (i+1)<16 - i;omega⟩)
 ·have hi16:i=16:=by omega
  rw[show F i=F 16 by rw[hi16]]
  repeat (first|refine Tw ?_|(refine Tm ?_;intro _)|exact Tz)
  refine WC.dF rfl (by omega) ?_
  repeat (first|exact WX.aret1 (hr:=aaZ (hl:=hlen 16)) (hp:=rfl)|refine Ta ?_|(refine Tm ?_;intro _)|refine WO.does (acQ (hl:=hlen 16)) ?_|refine WO.stores (pd (hl:=hlen 16) (hc:=by simp[yp])) ?_|refine Tc ?_|exact Tz)
end Sx
end
end Go.Proofs.YtbbppkkhidkjpaaGreatDoor
