/- Part 25 of the proof: EqA, RfA, RfS -/
import Derived.Test.YtmhligfnchegdaaGreatDoorM24
import Derived.Test.YtmhligfnchegdaaGreatDoorM17
import Derived.Test.YtmhligfnchegdaaGreatDoorM10
import Derived.Test.YtmhligfnchegdaaGreatDoorM20
import Derived.Laws.StructEq
import Derived.DeepKeys
set_option linter.unusedSimpArgs false
set_option linter.unusedVariables false
namespace Go.Proofs.YtmhligfnchegdaaGreatDoor
open Go Go.RowKit Go.BigFrame
namespace Sx
abbrev twoC (a b:Nat):List Value:=[.int .u64 ((wd 0 a:Nat):Int),.int .u64 ((wd 1 a:Nat):Int),.int .u64 ((wd 2 a:Nat):Int),.int .u64 ((wd 3 a:Nat):Int),.int .u64 ((wd 0 b:Nat):Int),.int .u64 ((wd 1 b:Nat):Int),.int .u64 ((wd 2 b:Nat):Int),.int .u64 ((wd 3 b:Nat):Int)]
theorem key_key (a b:Nat):∃ l,Tryz.prog.keyLits 3 76 (twoC a b)=some l:=by
  have c1:Tryz.prog.cellsOf 76=8:=by kernel_rfl
  have c2:Tryz.prog.cellsOf 24=4:=by kernel_rfl
  have k1:=key_num a
  have k2:=key_num b
  unfold Program.keyLits
  simp[Tryz.underlying76,c1,c2,numC] at k1 k2 ⊢
  simp[k1,k2]
theorem key_proof (a b:Nat):∃ l,Tryz.prog.keyLits 3 87 (twoC a b)=some l:=by
  have c1:Tryz.prog.cellsOf 87=8:=by kernel_rfl
  have c2:Tryz.prog.cellsOf 24=4:=by kernel_rfl
  have k1:=key_num a
  have k2:=key_num b
  unfold Program.keyLits
  simp[Tryz.underlying87,c1,c2,numC] at k1 k2 ⊢
  simp[k1,k2]
theorem key_sig (a b:Nat):∃ l,Tryz.prog.keyLits 3 38 (twoC a b)=some l:=by
  have c1:Tryz.prog.cellsOf 38=8:=by kernel_rfl
  have c2:Tryz.prog.cellsOf 24=4:=by kernel_rfl
  have k1:=key_num a
  have k2:=key_num b
  unfold Program.keyLits
  simp[Tryz.underlying38,c1,c2,numC] at k1 k2 ⊢
  simp[k1,k2]
theorem key_group (p q g h:Nat):∃ l,Tryz.prog.keyLits 3 26 (grpC p q g h)=some l:=by
  have c1:Tryz.prog.cellsOf 26=16:=by kernel_rfl
  have c2:Tryz.prog.cellsOf 24=4:=by kernel_rfl
  have k1:=key_num p
  have k2:=key_num q
  have k3:=key_num g
  have k4:=key_num h
  unfold Program.keyLits
  simp[Tryz.underlying26,c1,c2,numC] at k1 k2 k3 k4 ⊢
  simp[k1,k2,k3,k4]
theorem run_same {t d m D:Nat} {cs:List Value} (hk:Tryz.prog.keyTypeAt m t=true) (hm:d+m=10000) (hf:(Value.agg cs.toArray).formed Tryz.prog t=true) (hl:∃ l,Tryz.prog.keyLits D t cs=some l) (w:World) :
    (Op.equalIn 10000 t (.agg cs.toArray) (.agg cs.toArray)).run Tryz.prog w=.ok true w:=by
  obtain⟨l,hl⟩:=hl
  have hl' : Tryz.prog.keyLits D t (Value.agg cs.toArray).cells.toList=some l:=by simpa [Value.cells] using hl
  obtain⟨r,hr,hiff⟩:=run_equalIn_deep (P:=Tryz.prog) d m t hk w D D _ _ l l hf hf hl' hl'
  rw[hm] at hr
  rw[hr,hiff.2 rfl]
theorem same_num (a:Nat) (w:World):(Op.equalIn 10000 24 (.agg (numC a).toArray) (.agg (numC a).toArray)).run Tryz.prog w=.ok true w:=run_same (d:=9998) (m:=2) (D:=2) (by kernel_rfl) rfl (by kernel_rfl) ⟨_,key_num a⟩ w
theorem same_key (a b:Nat) (w:World):(Op.equalIn 10000 76 (.agg (twoC a b).toArray) (.agg (twoC a b).toArray)).run Tryz.prog w=.ok true w:=run_same (d:=9997) (m:=3) (D:=3) (by kernel_rfl) rfl (by kernel_rfl) (key_key a b) w
theorem same_proof (a b:Nat) (w:World):(Op.equalIn 10000 87 (.agg (twoC a b).toArray) (.agg (twoC a b).toArray)).run Tryz.prog w=.ok true w:=run_same (d:=9997) (m:=3) (D:=3) (by kernel_rfl) rfl (by kernel_rfl) (key_proof a b) w
theorem same_sig (a b:Nat) (w:World):(Op.equalIn 10000 38 (.agg (twoC a b).toArray) (.agg (twoC a b).toArray)).run Tryz.prog w=.ok true w:=run_same (d:=9997) (m:=3) (D:=3) (by kernel_rfl) rfl (by kernel_rfl) (key_sig a b) w
theorem same_group (p q g h:Nat) (w:World):(Op.equalIn 10000 26 (.agg (grpC p q g h).toArray) (.agg (grpC p q g h).toArray)).run Tryz.prog w=.ok true w:=run_same (d:=9997) (m:=3) (D:=3) (by kernel_rfl) rfl (by kernel_rfl) (key_group p q g h) w
theorem guard_key (op:BinOp) (x y:Operand) (a b:Array Value) (w:World):(eqGuard op 76 x y (.agg a) (.agg b)).run Tryz.prog w=.ok () w:=by cases op<;>kernel_rfl
theorem guard_proof (op:BinOp) (x y:Operand) (a b:Array Value) (w:World):(eqGuard op 87 x y (.agg a) (.agg b)).run Tryz.prog w=.ok () w:=by cases op<;>kernel_rfl
theorem guard_sig (op:BinOp) (x y:Operand) (a b:Array Value) (w:World):(eqGuard op 38 x y (.agg a) (.agg b)).run Tryz.prog w=.ok () w:=by cases op<;>kernel_rfl
theorem guard_group (op:BinOp) (x y:Operand) (a b:Array Value) (w:World):(eqGuard op 26 x y (.agg a) (.agg b)).run Tryz.prog w=.ok () w:=by cases op<;>kernel_rfl
section
variable {P:Program} {w0:World} {gs:List Nat} {K:List (Nat × Value)} {L:List Ent}
theorem a_eqSame {t yt ty:TypeId} {x y:Operand} {cs:List Value} (hx:ev K x=some (.agg cs.toArray)) (hy:ev K y=some (.agg cs.toArray)) (hs:∀ w,(Op.equalIn 10000 t (.agg cs.toArray) (.agg cs.toArray)).run P w=.ok true w)
    (hg:∀ w,(eqGuard .eql t x y (.agg cs.toArray) (.agg cs.toArray)).run P w=.ok () w):Does P w0 gs K L (.binOp .eql t x y yt) ty (.bool true):=by
  intro ac w hk _ o ho _
  simp only[execOp,ho,hk.eval hx,hk.eval hy,Sem.run_bind,hg,Result.andThen_ok,run_eql_struct,hs,Sem.run_pure]
theorem a_neqSame {t yt ty:TypeId} {x y:Operand} {cs:List Value} (hx:ev K x=some (.agg cs.toArray)) (hy:ev K y=some (.agg cs.toArray)) (hs:∀ w,(Op.equalIn 10000 t (.agg cs.toArray) (.agg cs.toArray)).run P w=.ok true w)
    (hg:∀ w,(eqGuard .neq t x y (.agg cs.toArray) (.agg cs.toArray)).run P w=.ok () w):Does P w0 gs K L (.binOp .neq t x y yt) ty (.bool false):=by
  intro ac w hk _ o ho _
  simp only[execOp,ho,hk.eval hx,hk.eval hy,Sem.run_bind,hg,Result.andThen_ok,run_neq_struct,hs,Sem.run_pure,Bool.not_true]
end
end Sx
end Go.Proofs.YtmhligfnchegdaaGreatDoor
namespace Go.Proofs.YtmhligfnchegdaaGreatDoor
open Go Go.RowKit
namespace Sx
attribute [local irreducible] DQ DQS WO WC WX
def dgs:Nat→Nat→List Nat
  | 0,_=>[]
  | k+1,x=>x%65536::dgs k (x / 65536)
def dval:List Nat→Nat
  | []=>0
  | d::r=>d+65536*dval r
theorem dgs_length:∀ (k x:Nat),(dgs k x).length=k
  | 0,_=>rfl
  | k+1,x=>by simp[dgs,dgs_length k]
theorem dgs_get:∀ {k i:Nat} (x:Nat),i<k→(dgs k x)[i]?=some (x / 65536 ^ i%65536)
  | 0,_,_,h=>by omega
  | k+1,0,x,_=>by simp[dgs]
  | k+1,i+1,x,h=>by
    simp only[dgs,List.getElem?_cons_succ]
    rw[dgs_get (x / 65536) (by omega),Nat.div_div_eq_div_mul,Nat.pow_succ,Nat.mul_comm]
theorem dgs_lt:∀ (k x:Nat),∀ d∈dgs k x,d<65536
  | 0,_,d,h=>by cases h
  | k+1,x,d,h=>by
    rcases List.mem_cons.1 h with rfl|h
    · exact Nat.mod_lt _ (by decide)
    · exact dgs_lt k _ d h
theorem dval_dgs:∀ (k x:Nat),dval (dgs k x)=x%65536 ^ k
  | 0,x=>by simp[dgs,dval,Nat.mod_one]
  | k+1,x=>by
    simp only[dgs,dval]
    rw[dval_dgs k,Nat.pow_succ,Nat.mul_comm (65536 ^ k),Nat.mod_mul]
theorem dval_append:∀ (l m:List Nat),dval (l++m)=dval l+65536 ^ l.length*dval m
  | [],m=>by simp[dval]
  | d::r,m=>by
    simp only[List.cons_append,dval,dval_append r m,List.length_cons,Nat.pow_succ]
    rw[Nat.mul_add,Nat.mul_comm (65536 ^ r.length) 65536,Nat.mul_assoc,Nat.add_assoc]
theorem dval_lt:∀ {l:List Nat},(∀ d∈l,d<65536)→dval l<65536 ^ l.length
  | [],_=>by simp[dval]
  | d::r,h=>by
    have h1:=dval_lt (l:=r) (fun x hx=>h x (by simp[hx]))
    have h2:=h d (by simp)
    simp only[dval,List.length_cons,Nat.pow_succ]
    omega
theorem dval_take_succ {l:List Nat} {i:Nat} (h:i<l.length):dval (l.take (i+1))=dval (l.take i)+65536 ^ i*l.getD i 0:=by
  rw[List.take_succ_eq_append_getElem h,dval_append,List.length_take,Nat.min_eq_left (by omega)]
  simp[dval,List.getD,h]
theorem B256_digits:65536 ^ 16=B256:=by decide
theorem woC_getD {l:List Nat} {i:Nat} (h:i<l.length):(woC l)[i]?=some (.int .u64 ((l.getD i 0:Nat):Int)):=by
  rw[woC_get h];simp[List.getD,h]
theorem woC_over {l:List Nat} {i v:Nat} (h:i<l.length):over (woC l) i [.int .u64 (v:Int)]=woC (l.set i v):=by
  unfold over woC
  simp only[List.length_cons,List.length_nil,Nat.zero_add]
  rw[List.set_eq_take_append_cons_drop,if_pos h]
  simp[List.map_take,List.map_drop]
theorem woC_one (l:List Nat):(woC l).all Value.oneCell'=true:=by simp[woC,Value.oneCell']
theorem woC_take (l:List Nat) (n:Nat):(woC l).take n=woC (l.take n):=by simp[woC,List.map_take]
theorem woC_drop (l:List Nat) (n:Nat):(woC l).drop n=woC (l.drop n):=by simp[woC,List.map_drop]
theorem numC_get {a j:Nat} (h:j<4):(numC a)[j]?=some (.int .u64 ((wd j a:Nat):Int)):=by
  match j,h with
  | 0,_=>rfl
  | 1,_=>rfl
  | 2,_=>rfl
  | 3,_=>rfl
section
variable {P:Program} {w0:World} {gs:List Nat} {K:List (Nat × Value)} {L:List Ent}
theorem l_word {t g i t' : Nat} {l:List Nat} {x:Operand} {ty:TypeId} [OnT P t] (hx:ev K x=some (.pointer (some ⟨g,i,none⟩)):=by rfl) (hm:Hs L g t' (woC l):=by (repeat (first|exact Hs.here|apply Hs.there))) (hi:i<l.length) :
    Does P w0 gs K L (.load t x) ty (.int .u64 ((l.getD i 0:Nat):Int)):=does_load1 hx hm (woC_getD hi)
theorem l_num {t g j t' a:Nat} {x:Operand} {ty:TypeId} [OnT P t] (hx:ev K x=some (.pointer (some ⟨g,j,none⟩)):=by rfl) (hm:Hs L g t' (numC a):=by (repeat (first|exact Hs.here|apply Hs.there))) (hj:j<4) :
    Does P w0 gs K L (.load t x) ty (.int .u64 ((wd j a:Nat):Int)):=does_load1 hx hm (numC_get hj)
theorem s_word {t g i t' v:Nat} {l:List Nat} {x y:Operand} {ty:TypeId} {L' : List Ent} [OnT P t] (hx:ev K x=some (.pointer (some ⟨g,i,none⟩)):=by rfl) (hy:ev K y=some (.int .u64 (v:Int)):=by rfl)
    (hm:Hs L g t' (woC l):=by (repeat (first|exact Hs.here|apply Hs.there))) (hi:i<l.length) (hr:Rp L g t' (woC l) (woC (l.set i v)) L':=by (repeat (first|exact Rp.here|apply Rp.there))) (ht:t'≠0:=by decide) :
    Stores P w0 gs K L (.store t x y) ty L' :=
  stores_own (vs:=[.int .u64 (v:Int)]) hx hy rfl rfl rfl hr (woC_over hi) (by simp only[woC_length,List.length_cons,List.length_nil];omega) ht
theorem cut_row {cs:List Value} {n:Nat} (h:cs.length=n):cut cs 0 n=cs:=by simp[cut,← h]
theorem l_row {t n g t' : Nat} {l:List Nat} {x:Operand} {ty:TypeId} [AgT P t n] (hx:ev K x=some (.pointer (some ⟨g,0,none⟩)):=by rfl) (hm:Hs L g t' (woC l):=by (repeat (first|exact Hs.here|apply Hs.there))) (hl:l.length=n) :
    Does P w0 gs K L (.load t x) ty (.agg (woC l).toArray):=does_load hx hm (cut_row (by rw[woC_length,hl])) (by rw[woC_length,hl])
theorem s_row {t n g t' : Nat} {l:List Nat} {cs:List Value} {x y:Operand} {ty:TypeId} {L' : List Ent} [AgT P t n] (hx:ev K x=some (.pointer (some ⟨g,0,none⟩)):=by rfl) (hy:ev K y=some (.agg (woC l).toArray):=by rfl)
    (hm:Hs L g t' cs:=by (repeat (first|exact Hs.here|apply Hs.there))) (hl:l.length=n) (hc:cs.length=n) (hr:Rp L g t' cs (woC l) L':=by (repeat (first|exact Rp.here|apply Rp.there))) (ht:t'≠0:=by decide) :
    Stores P w0 gs K L (.store t x y) ty L' :=
  stores_own (vs:=woC l) hx hy (by simp[cellsOf]) (by rw[woC_length,hl]) (woC_one l) hr (by unfold over;rw[List.take_zero,List.nil_append,List.drop_eq_nil_of_le (by rw[woC_length];omega),List.append_nil]) (by rw[woC_length];omega) ht
theorem rv_row {p t g t' n:Nat} {l:List Nat} [AgT P t n] (hx:lk K p=some (.pointer (some ⟨g,0,none⟩)):=by rfl) (hm:Hs L g t' (woC l):=by (repeat (first|exact Hs.here|apply Hs.there))) (hl:l.length=n) :
    Rv P w0 gs K L (.cell p t) (.agg (woC l).toArray):=rv_cell hx hm (cut_row (by rw[woC_length,hl])) (by rw[woC_length,hl])
end
theorem quo_i64 (i c:Nat) (h:i<9223372036854775808):IntKind.i64.wrap ((i:Int).tdiv (c:Int))=((i / c:Nat):Int):=by
  rw[Int.tdiv_eq_ediv_of_nonneg (by omega),← Int.natCast_ediv]
  have:=Nat.div_le_self i c
  generalize i / c=q at *
  exact i64_in (by omega) (by omega)
theorem quo_u64 (i c:Nat) (h:i<18446744073709551616):IntKind.u64.wrap ((i:Int).tdiv (c:Int))=((i / c:Nat):Int):=by
  rw[Int.tdiv_eq_ediv_of_nonneg (by omega),← Int.natCast_ediv]
  have:=Nat.div_le_self i c
  generalize i / c=q at *
  exact u64_in (by omega) (by omega)
theorem rem_nat (i c:Nat):(i:Int).tmod (c:Int)=((i%c:Nat):Int):=by
  rw[Int.tmod_eq_emod_of_nonneg (by omega)];rfl
theorem mul_i64 (i c:Nat) (h:i*c<9223372036854775808):IntKind.i64.wrap ((i:Int)*(c:Int))=((i*c:Nat):Int):=by
  rw[← Int.natCast_mul];exact i64_in (by omega) (by omega)
theorem mul_u64 (i c:Nat) (h:i*c<18446744073709551616):IntKind.u64.wrap ((i:Int)*(c:Int))=((i*c:Nat):Int):=by
  rw[← Int.natCast_mul];exact u64_in (by omega) (by omega)
theorem add_u64 (i c:Nat) (h:i+c<18446744073709551616):IntKind.u64.wrap ((i:Int)+(c:Int))=((i+c:Nat):Int):=by
  rw[← Int.natCast_add];exact u64_in (by omega) (by omega)
theorem sub_u64 (i c:Nat) (h:c≤i) (h2:i<18446744073709551616):IntKind.u64.wrap ((i:Int) - (c:Int))=((i - c:Nat):Int):=by
  rw[← Int.natCast_sub h];exact u64_in (by omega) (by omega)
theorem shr_u64 (x e:Nat) (he:e≤64):((x:Nat):Int).fdiv (2 ^ min ((e:Int)).toNat IntKind.u64.bits)=((x / 2 ^ e:Nat):Int):=shr_nat (k:=.u64) he
theorem shl_u64 (x e:Nat) (he:e≤64) (h:x*2 ^ e<18446744073709551616):IntKind.u64.wrap (((x:Nat):Int)*2 ^ (min ((e:Nat):Int).toNat IntKind.u64.bits))=((x*2 ^ e:Nat):Int):=by
  rw[show (min ((e:Nat):Int).toNat IntKind.u64.bits)=e from Nat.min_eq_left he,show ((2:Int) ^ e)=((2 ^ e:Nat):Int) by simp,← Int.natCast_mul]
  exact u64_in (by omega) (by omega)
theorem digit_at {a i:Nat} (ha:a<B256) (hi:i<16):wd (i / 4) a / 2 ^ (16*(i%4))%65536=a / 65536 ^ i%65536:=by
  unfold B256 at ha
  match i,hi with
  | 0,_|1,_|2,_|3,_|4,_|5,_|6,_|7,_|8,_|9,_|10,_|11,_|12,_|13,_|14,_|15,_=>simp only[wd,Nat.reduceDiv,Nat.reduceMod,Nat.reduceMul,Nat.reducePow];omega
  | n+16,h=>omega
theorem r_Of (n:Nat) (h:n<18446744073709551616):Fn Tryz.prog 249 [.int .u64 (n:Int)] Tr (Is (numV n)):=by
  have e:Value.agg #[.int .u64 (n:Int),.int .u64 0,.int .u64 0,.int .u64 0]=numV n:=by
    have:=numV_of h (by decide:0<18446744073709551616) (by decide:0<18446744073709551616) (by decide:0<18446744073709551616)
    simpa [val4] using this
  rw[← e]
  refine Fn.enter Tryz.func249 rfl rfl rfl ?_
  intro w hw
  repeat (first|refine Ta ?_|(refine Tm ?_;intro _)|refine Tc ?_|exact Tz)
def dga (l:List Nat) (i:Nat):List Nat:=l.take i++List.replicate (l.length - i) 0
theorem dga_length {l:List Nat} {i:Nat} (h:i≤l.length):(dga l i).length=l.length:=by simp[dga];omega
theorem dga_full (l:List Nat):dga l l.length=l:=by simp[dga]
theorem dga_set {l:List Nat} {i:Nat} (h:i<l.length):(dga l i).set i (l.getD i 0)=dga l (i+1):=by
  unfold dga
  have e:i - (l.take i).length=0:=by simp;omega
  have g:l.getD i 0=l[i]:=by simp[List.getD,h]
  rw[List.set_append_right _ _ (by simp;omega),e,show l.length - i=(l.length - (i+1))+1 by omega,List.replicate_succ,List.set_cons_zero,List.take_succ_eq_append_getElem h,g,List.append_assoc]
  rfl
theorem r_Digits (a:Nat) (ha:a<B256):Fn Tryz.prog 258 [numV a] Tr (Is (.agg (woC (dgs 16 a)).toArray)):=by
  have hlen:=dgs_length 16 a
  have hd:∀ i,i<16→wd (i / 4) a / 2 ^ (16*(i%4))%65536=(dgs 16 a).getD i 0:=fun i hi=>by
    rw[digit_at ha hi,List.getD,dgs_get a hi];rfl
  generalize dgs 16 a=D at *
  refine Fn.enter Tryz.func258 rfl rfl rfl ?_
  intro w hw
  repeat (first|refine Ta ?_|(refine Tm ?_;intro _)|refine Tc ?_|exact Tz)
  rename_i g1 g2 g3
  refine WC.loopI (σ:=Nat) (fun i=>i≤16) (fun i=>[(1,pt g1),(2,pt g2),(3,pt g3),(4,.int .i64 (i:Int))]) (fun i=>[⟨g1,24,numC a⟩,⟨g2,307,woC (List.replicate 16 0)⟩,⟨g3,307,woC (dga D i)⟩]) (fun i=>16 - i) 0 (fun i hi=>?_) (Nat.zero_le _) (by repeat (first|exact Kle.nil|refine Kle.cons rfl rfl ?_)) (by
      rw[show dga D 0=List.replicate 16 0 by simp[dga,hlen]]
      repeat (first|exact Lle.nil|refine Lle.cons (by repeat (first|exact Pk.here|apply Pk.there)) rfl ?_))
  try dsimp only at hi ⊢
  by_cases hlt:i<16
  · have hq:=quo_i64 i 4 (by omega)
    have hr:=rem_nat i 4
    have hm:=mul_i64 16 (i%4) (by omega)
    have hs:=shr_u64 (wd (i / 4) a) (16*(i%4)) (by omega)
    have hr2:=rem_nat (wd (i / 4) a / 2 ^ (16*(i%4))) 65536
    rw[hd i hlt] at hr2
    have hset:=dga_set (l:=D) (i:=i) (by omega)
    have hl:=dga_length (l:=D) (i:=i) (by omega)
    repeat (first|refine Ta ?_|(refine Tm ?_;intro _)|refine Tc ?_|exact Tz)
    refine WC.dT rfl (by omega) ?_
    repeat (first|refine Ta ?_|(refine Tm ?_;intro _)|refine WO.does (does_quo rfl rfl (by decide) hq) ?_|refine WO.does (l_num (hj:=by omega)) ?_|refine WO.does (does_rem rfl rfl (by decide) hr) ?_|refine WO.does (does_mul rfl rfl hm) ?_|refine WO.does (does_shr rfl rfl (by omega) hs) ?_|refine WO.does (does_rem rfl rfl (by decide) hr2) ?_|refine WO.stores (s_word (hi:=by omega)) ?_|refine Tc ?_|exact Tz)
    rw[hset]
    refine WX.metI (i+1) (hs:=⟨by show i+1≤16;omega,by show 16 - (i+1)<16 - i;omega⟩)
  · have hi16:i=16:=by omega
    have e:dga D i=D:=by rw[hi16,← hlen];exact dga_full D
    rw[e]
    repeat (first|refine Ta ?_|(refine Tm ?_;intro _)|refine Tc ?_|exact Tz)
    refine WC.dF rfl (by omega) ?_
    repeat (first|exact WX.aret1 (hr:=rv_row (hl:=hlen)) (hp:=rfl)|refine Ta ?_|(refine Tm ?_;intro _)|refine WO.does (l_row (hl:=hlen)) ?_|refine WO.stores (s_row (hl:=hlen) (hc:=by simp[woC_length])) ?_|refine Tc ?_|exact Tz)
end Sx
end Go.Proofs.YtmhligfnchegdaaGreatDoor
namespace Go.Proofs.YtmhligfnchegdaaGreatDoor
open Go Go.RowKit Go.BigFrame
namespace Sx
attribute [local irreducible] wd DQ DQS WO WC WX
theorem does_notX {P:Program} {w0:World} {gs:List Nat} {K:List (Nat × Value)} {L:List Ent} {x:Operand} {t ty:TypeId} {e:Nat} (hx:ev K x=some (.int .u32 (e:Int))) (he:e<4294967296):Does P w0 gs K L (.unOp .xor t x) ty (.int .u32 ((4294967295 ^^^ e:Nat):Int)):=by
  intro a w hk _ o ho _
  have h:=xor_u32 (a:=4294967295) (b:=e) (by decide) he
  simp only[execOp,ho,hk.eval hx]
  show ((do pure (Next.value (← Op.unary .xor (.int .u32 (e:Int)))):Sem Next)).run P w=_
  simp only[Op.unary,Op.intBits,Sem.run_bind,Sem.run_pure,Result.andThen_ok]
  have:IntKind.u32.max=((4294967295:Nat):Int):=by decide
  rw[if_neg (by decide),this,h]
theorem not_lt {e:Nat} (he:e<4294967296):4294967295 ^^^ e<4294967296:=Nat.xor_lt_two_pow (n:=32) (by decide) he
theorem ch_alt {e f g:Nat} (hg:g<4294967296):(e &&& f) ^^^ ((4294967295 ^^^ e) &&& g)=Sha.ch e f g:=by
  unfold Sha.ch
  apply Nat.eq_of_testBit_eq
  intro i
  have h1:(4294967295:Nat).testBit i=decide (i<32):=by
    rw[show (4294967295:Nat)=2 ^ 32 - 1 by decide];exact Nat.testBit_two_pow_sub_one 32 i
  simp only[Nat.testBit_xor,Nat.testBit_and,h1]
  by_cases hi:i<32
  · rw[decide_eq_true hi]
    cases e.testBit i<;>cases f.testBit i<;>cases g.testBit i<;>rfl
  · have h2:g.testBit i=false:=Nat.testBit_lt_two_pow (Nat.lt_of_lt_of_le hg (Nat.pow_le_pow_right (by decide:0<2) (by omega:32≤i)))
    rw[h2,decide_eq_false hi]
    cases e.testBit i<;>cases f.testBit i<;>rfl
theorem maj_alt {a b c:Nat}:(a &&& b) ||| (a &&& c) ||| (b &&& c)=Sha.maj a b c:=by
  unfold Sha.maj
  apply Nat.eq_of_testBit_eq
  intro i
  simp only[Nat.testBit_xor,Nat.testBit_and,Nat.testBit_or]
  cases a.testBit i<;>cases b.testBit i<;>cases c.testBit i<;>rfl
theorem r_round (x n:Nat) (hx:x<4294967296) (hn:n≤32):Fn Tryz.prog 257 [.int .u32 (x:Int),.int .u64 (n:Int)] Tr (Is (.int .u32 ((Sha.rotr n x:Nat):Int))):=by
  have h1:=e_shr x n (n:Int) rfl hn
  have h2:=sub_u64 32 n hn (by decide)
  have h3:=e_shl x (32 - n) ((32 - n:Nat):Int) rfl (by omega)
  have h4:=e_or (a:=x / 2 ^ n) (b:=x*2 ^ (32 - n)%4294967296) (Nat.lt_of_le_of_lt (Nat.div_le_self _ _) hx) (Nat.mod_lt _ (by decide))
  rw[show x / 2 ^ n ||| x*2 ^ (32 - n)%4294967296=Sha.rotr n x from rfl] at h4
  refine Fn.enter Tryz.func257 rfl rfl rfl ?_
  intro w hw
  repeat (first|refine Ta ?_|(refine Tm ?_;intro _)|refine Tc ?_|exact Tz)
  refine WO.does (h_shr rfl rfl h1 (by omega)) ?_
  repeat (first|refine Ta ?_|(refine Tm ?_;intro _)|refine WO.does (does_sub rfl rfl h2) ?_|refine Tc ?_|exact Tz)
  refine WO.does (h_shl rfl rfl h3 (by omega)) ?_
  refine WO.does (h_or rfl rfl h4) ?_
  repeat (first|refine Ta ?_|(refine Tm ?_;intro _)|refine Tc ?_|exact Tz)
end Sx
end Go.Proofs.YtmhligfnchegdaaGreatDoor
