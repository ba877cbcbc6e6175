/- Part 22 of the proof: RfA, RfS, RfT, RfP, RfU, RfQ, RfV, RfB, RfC, RfD -/
import Derived.Test.YtiiacjladnljhaaGreatDoorM17
import Derived.Test.YtiiacjladnljhaaGreatDoorM09
import Derived.Test.YtiiacjladnljhaaGreatDoorM21
import Derived.Test.YtiiacjladnljhaaGreatDoorM10
import Derived.Test.YtiiacjladnljhaaGreatDoorM18
set_option linter.unusedSimpArgs false
set_option linter.unusedVariables false
namespace Go.Proofs.YtiiacjladnljhaaGreatDoor
open Go Go.RowKit
namespace Sx
attribute [local irreducible] DQ DQS WO WC WX
def dgs:Nat→Nat→List Nat
  | 0,_=>[]
  | k+1,x=>x%65536::dgs k (x / 65536)
def dval:List Nat→Nat
  | []=>0
  | d::r=>d+65536*dval r
theorem dgs_length:∀ (k x:Nat),(dgs k x).length=k
  | 0,_=>rfl
  | k+1,x=>by simp[dgs,dgs_length k]
theorem dgs_get:∀ {k i:Nat} (x:Nat),i<k→(dgs k x)[i]?=some (x / 65536 ^ i%65536)
  | 0,_,_,h=>by omega
  | k+1,0,x,_=>by simp[dgs]
  | k+1,i+1,x,h=>by
    simp only[dgs,List.getElem?_cons_succ]
    rw[dgs_get (x / 65536) (by omega),Nat.div_div_eq_div_mul,Nat.pow_succ,Nat.mul_comm]
theorem dgs_lt:∀ (k x:Nat),∀ d∈dgs k x,d<65536
  | 0,_,d,h=>by cases h
  | k+1,x,d,h=>by
    rcases List.mem_cons.1 h with rfl|h
    · exact Nat.mod_lt _ (by decide)
    · exact dgs_lt k _ d h
theorem dval_dgs:∀ (k x:Nat),dval (dgs k x)=x%65536 ^ k
  | 0,x=>by simp[dgs,dval,Nat.mod_one]
  | k+1,x=>by
    simp only[dgs,dval]
    rw[dval_dgs k,Nat.pow_succ,Nat.mul_comm (65536 ^ k),Nat.mod_mul]
theorem dval_append:∀ (l m:List Nat),dval (l++m)=dval l+65536 ^ l.length*dval m
  | [],m=>by simp[dval]
  | d::r,m=>by
    simp only[List.cons_append,dval,dval_append r m,List.length_cons,Nat.pow_succ]
    rw[Nat.mul_add,Nat.mul_comm (65536 ^ r.length) 65536,Nat.mul_assoc,Nat.add_assoc]
theorem dval_lt:∀ {l:List Nat},(∀ d∈l,d<65536)→dval l<65536 ^ l.length
  | [],_=>by simp[dval]
  | d::r,h=>by
    have h1:=dval_lt (l:=r) (fun x hx=>h x (by simp[hx]))
    have h2:=h d (by simp)
    simp only[dval,List.length_cons,Nat.pow_succ]
    omega
theorem dval_take_succ {l:List Nat} {i:Nat} (h:i<l.length):dval (l.take (i+1))=dval (l.take i)+65536 ^ i*l.getD i 0:=by
  rw[List.take_succ_eq_append_getElem h,dval_append,List.length_take,Nat.min_eq_left (by omega)]
  simp[dval,List.getD,h]
theorem B256_digits:65536 ^ 16=B256:=by decide
theorem woC_getD {l:List Nat} {i:Nat} (h:i<l.length):(woC l)[i]?=some (.int .u64 ((l.getD i 0:Nat):Int)):=by
  rw[woC_get h];simp[List.getD,h]
theorem woC_over {l:List Nat} {i v:Nat} (h:i<l.length):over (woC l) i [.int .u64 (v:Int)]=woC (l.set i v):=by
  unfold over woC
  simp only[List.length_cons,List.length_nil,Nat.zero_add]
  rw[List.set_eq_take_append_cons_drop,if_pos h]
  simp[List.map_take,List.map_drop]
theorem woC_one (l:List Nat):(woC l).all Value.oneCell'=true:=by simp[woC,Value.oneCell']
theorem woC_take (l:List Nat) (n:Nat):(woC l).take n=woC (l.take n):=by simp[woC,List.map_take]
theorem woC_drop (l:List Nat) (n:Nat):(woC l).drop n=woC (l.drop n):=by simp[woC,List.map_drop]
theorem numC_get {a j:Nat} (h:j<4):(numC a)[j]?=some (.int .u64 ((wd j a:Nat):Int)):=by
  match j,h with
  | 0,_=>rfl
  | 1,_=>rfl
  | 2,_=>rfl
  | 3,_=>rfl
section
variable {P:Program} {w0:World} {gs:List Nat} {K:List (Nat × Value)} {L:List Ent}
theorem l_word {t g i t' : Nat} {l:List Nat} {x:Operand} {ty:TypeId} [OnT P t] (hx:ev K x=some (.pointer (some ⟨g,i,none⟩)):=by rfl) (hm:Hs L g t' (woC l):=by (repeat (first|exact Hs.here|apply Hs.there))) (hi:i<l.length) :
    Does P w0 gs K L (.load t x) ty (.int .u64 ((l.getD i 0:Nat):Int)):=does_load1 hx hm (woC_getD hi)
theorem l_num {t g j t' a:Nat} {x:Operand} {ty:TypeId} [OnT P t] (hx:ev K x=some (.pointer (some ⟨g,j,none⟩)):=by rfl) (hm:Hs L g t' (numC a):=by (repeat (first|exact Hs.here|apply Hs.there))) (hj:j<4) :
    Does P w0 gs K L (.load t x) ty (.int .u64 ((wd j a:Nat):Int)):=does_load1 hx hm (numC_get hj)
theorem s_word {t g i t' v:Nat} {l:List Nat} {x y:Operand} {ty:TypeId} {L' : List Ent} [OnT P t] (hx:ev K x=some (.pointer (some ⟨g,i,none⟩)):=by rfl) (hy:ev K y=some (.int .u64 (v:Int)):=by rfl)
    (hm:Hs L g t' (woC l):=by (repeat (first|exact Hs.here|apply Hs.there))) (hi:i<l.length) (hr:Rp L g t' (woC l) (woC (l.set i v)) L':=by (repeat (first|exact Rp.here|apply Rp.there))) (ht:t'≠0:=by decide) :
    Stores P w0 gs K L (.store t x y) ty L' :=
  stores_own (vs:=[.int .u64 (v:Int)]) hx hy rfl rfl rfl hr (woC_over hi) (by simp only[woC_length,List.length_cons,List.length_nil];omega) ht
theorem cut_row {cs:List Value} {n:Nat} (h:cs.length=n):cut cs 0 n=cs:=by simp[cut,← h]
theorem l_row {t n g t' : Nat} {l:List Nat} {x:Operand} {ty:TypeId} [AgT P t n] (hx:ev K x=some (.pointer (some ⟨g,0,none⟩)):=by rfl) (hm:Hs L g t' (woC l):=by (repeat (first|exact Hs.here|apply Hs.there))) (hl:l.length=n) :
    Does P w0 gs K L (.load t x) ty (.agg (woC l).toArray):=does_load hx hm (cut_row (by rw[woC_length,hl])) (by rw[woC_length,hl])
theorem s_row {t n g t' : Nat} {l:List Nat} {cs:List Value} {x y:Operand} {ty:TypeId} {L' : List Ent} [AgT P t n] (hx:ev K x=some (.pointer (some ⟨g,0,none⟩)):=by rfl) (hy:ev K y=some (.agg (woC l).toArray):=by rfl)
    (hm:Hs L g t' cs:=by (repeat (first|exact Hs.here|apply Hs.there))) (hl:l.length=n) (hc:cs.length=n) (hr:Rp L g t' cs (woC l) L':=by (repeat (first|exact Rp.here|apply Rp.there))) (ht:t'≠0:=by decide) :
    Stores P w0 gs K L (.store t x y) ty L' :=
  stores_own (vs:=woC l) hx hy (by simp[cellsOf]) (by rw[woC_length,hl]) (woC_one l) hr (by unfold over;rw[List.take_zero,List.nil_append,List.drop_eq_nil_of_le (by rw[woC_length];omega),List.append_nil]) (by rw[woC_length];omega) ht
theorem rv_row {p t g t' n:Nat} {l:List Nat} [AgT P t n] (hx:lk K p=some (.pointer (some ⟨g,0,none⟩)):=by rfl) (hm:Hs L g t' (woC l):=by (repeat (first|exact Hs.here|apply Hs.there))) (hl:l.length=n) :
    Rv P w0 gs K L (.cell p t) (.agg (woC l).toArray):=rv_cell hx hm (cut_row (by rw[woC_length,hl])) (by rw[woC_length,hl])
end
theorem quo_i64 (i c:Nat) (h:i<9223372036854775808):IntKind.i64.wrap ((i:Int).tdiv (c:Int))=((i / c:Nat):Int):=by
  rw[Int.tdiv_eq_ediv_of_nonneg (by omega),← Int.natCast_ediv]
  have:=Nat.div_le_self i c
  generalize i / c=q at *
  exact i64_in (by omega) (by omega)
theorem quo_u64 (i c:Nat) (h:i<18446744073709551616):IntKind.u64.wrap ((i:Int).tdiv (c:Int))=((i / c:Nat):Int):=by
  rw[Int.tdiv_eq_ediv_of_nonneg (by omega),← Int.natCast_ediv]
  have:=Nat.div_le_self i c
  generalize i / c=q at *
  exact u64_in (by omega) (by omega)
theorem rem_nat (i c:Nat):(i:Int).tmod (c:Int)=((i%c:Nat):Int):=by
  rw[Int.tmod_eq_emod_of_nonneg (by omega)];rfl
theorem mul_i64 (i c:Nat) (h:i*c<9223372036854775808):IntKind.i64.wrap ((i:Int)*(c:Int))=((i*c:Nat):Int):=by
  rw[← Int.natCast_mul];exact i64_in (by omega) (by omega)
theorem mul_u64 (i c:Nat) (h:i*c<18446744073709551616):IntKind.u64.wrap ((i:Int)*(c:Int))=((i*c:Nat):Int):=by
  rw[← Int.natCast_mul];exact u64_in (by omega) (by omega)
theorem add_u64 (i c:Nat) (h:i+c<18446744073709551616):IntKind.u64.wrap ((i:Int)+(c:Int))=((i+c:Nat):Int):=by
  rw[← Int.natCast_add];exact u64_in (by omega) (by omega)
theorem sub_u64 (i c:Nat) (h:c≤i) (h2:i<18446744073709551616):IntKind.u64.wrap ((i:Int) - (c:Int))=((i - c:Nat):Int):=by
  rw[← Int.natCast_sub h];exact u64_in (by omega) (by omega)
theorem shr_u64 (x e:Nat) (he:e≤64):((x:Nat):Int).fdiv (2 ^ min ((e:Int)).toNat IntKind.u64.bits)=((x / 2 ^ e:Nat):Int):=shr_nat (k:=.u64) he
theorem shl_u64 (x e:Nat) (he:e≤64) (h:x*2 ^ e<18446744073709551616):IntKind.u64.wrap (((x:Nat):Int)*2 ^ (min ((e:Nat):Int).toNat IntKind.u64.bits))=((x*2 ^ e:Nat):Int):=by
  rw[show (min ((e:Nat):Int).toNat IntKind.u64.bits)=e from Nat.min_eq_left he,show ((2:Int) ^ e)=((2 ^ e:Nat):Int) by simp,← Int.natCast_mul]
  exact u64_in (by omega) (by omega)
theorem digit_at {a i:Nat} (ha:a<B256) (hi:i<16):wd (i / 4) a / 2 ^ (16*(i%4))%65536=a / 65536 ^ i%65536:=by
  unfold B256 at ha
  match i,hi with
  | 0,_|1,_|2,_|3,_|4,_|5,_|6,_|7,_|8,_|9,_|10,_|11,_|12,_|13,_|14,_|15,_=>simp only[wd,Nat.reduceDiv,Nat.reduceMod,Nat.reduceMul,Nat.reducePow];omega
  | n+16,h=>omega
theorem r_Of (n:Nat) (h:n<18446744073709551616):Fn Tryz.prog 197 [.int .u64 (n:Int)] Tr (Is (numV n)):=by
  have e:Value.agg #[.int .u64 (n:Int),.int .u64 0,.int .u64 0,.int .u64 0]=numV n:=by
    have:=numV_of h (by decide:0<18446744073709551616) (by decide:0<18446744073709551616) (by decide:0<18446744073709551616)
    simpa [val4] using this
  rw[← e]
  refine Fn.enter Tryz.func197 rfl rfl rfl ?_
  intro w hw
  repeat (first|refine Ta ?_|(refine Tm ?_;intro _)|refine Tc ?_|exact Tz)
def dga (l:List Nat) (i:Nat):List Nat:=l.take i++List.replicate (l.length - i) 0
theorem dga_length {l:List Nat} {i:Nat} (h:i≤l.length):(dga l i).length=l.length:=by simp[dga];omega
theorem dga_full (l:List Nat):dga l l.length=l:=by simp[dga]
theorem dga_set {l:List Nat} {i:Nat} (h:i<l.length):(dga l i).set i (l.getD i 0)=dga l (i+1):=by
  unfold dga
  have e:i - (l.take i).length=0:=by simp;omega
  have g:l.getD i 0=l[i]:=by simp[List.getD,h]
  rw[List.set_append_right _ _ (by simp;omega),e,show l.length - i=(l.length - (i+1))+1 by omega,List.replicate_succ,List.set_cons_zero,List.take_succ_eq_append_getElem h,g,List.append_assoc]
  rfl
theorem r_Digits (a:Nat) (ha:a<B256):Fn Tryz.prog 196 [numV a] Tr (Is (.agg (woC (dgs 16 a)).toArray)):=by
  have hlen:=dgs_length 16 a
  have hd:∀ i,i<16→wd (i / 4) a / 2 ^ (16*(i%4))%65536=(dgs 16 a).getD i 0:=fun i hi=>by
    rw[digit_at ha hi,List.getD,dgs_get a hi];rfl
  generalize dgs 16 a=D at *
  refine Fn.enter Tryz.func196 rfl rfl rfl ?_
  intro w hw
  repeat (first|refine Ta ?_|(refine Tm ?_;intro _)|refine Tc ?_|exact Tz)
  rename_i g1 g2 g3
  refine WC.loopI (σ:=Nat) (fun i=>i≤16) (fun i=>[(1,pt g1),(2,pt g2),(3,pt g3),(4,.int .i64 (i:Int))]) (fun i=>[⟨g1,24,numC a⟩,⟨g2,259,woC (List.replicate 16 0)⟩,⟨g3,259,woC (dga D i)⟩]) (fun i=>16 - i) 0 (fun i hi=>?_) (Nat.zero_le _) (by repeat (first|exact Kle.nil|refine Kle.cons rfl rfl ?_)) (by
      rw[show dga D 0=List.replicate 16 0 by simp[dga,hlen]]
      repeat (first|exact Lle.nil|refine Lle.cons (by repeat (first|exact Pk.here|apply Pk.there)) rfl ?_))
  try dsimp only at hi ⊢
  by_cases hlt:i<16
  · have hq:=quo_i64 i 4 (by omega)
    have hr:=rem_nat i 4
    have hm:=mul_i64 16 (i%4) (by omega)
    have hs:=shr_u64 (wd (i / 4) a) (16*(i%4)) (by omega)
    have hr2:=rem_nat (wd (i / 4) a / 2 ^ (16*(i%4))) 65536
    rw[hd i hlt] at hr2
    have hset:=dga_set (l:=D) (i:=i) (by omega)
    have hl:=dga_length (l:=D) (i:=i) (by omega)
    repeat (first|refine Ta ?_|(refine Tm ?_;intro _)|refine Tc ?_|exact Tz)
    refine WC.dT rfl (by omega) ?_
    repeat (first|refine Ta ?_|(refine Tm ?_;intro _)|refine WO.does (does_quo rfl rfl (by decide) hq) ?_|refine WO.does (l_num (hj:=by omega)) ?_|refine WO.does (does_rem rfl rfl (by decide) hr) ?_|refine WO.does (does_mul rfl rfl hm) ?_|refine WO.does (does_shr rfl rfl (by omega) hs) ?_|refine WO.does (does_rem rfl rfl (by decide) hr2) ?_|refine WO.stores (s_word (hi:=by omega)) ?_|refine Tc ?_|exact Tz)
    rw[hset]
    refine WX.metI (i+1) (hs:=⟨by show i+1≤16;omega,by show 16 - (i+1)<16 - i;omega⟩)
  · have hi16:i=16:=by omega
    have e:dga D i=D:=by rw[hi16,← hlen];exact dga_full D
    rw[e]
    repeat (first|refine Ta ?_|(refine Tm ?_;intro _)|refine Tc ?_|exact Tz)
    refine WC.dF rfl (by omega) ?_
    repeat (first|exact WX.aret1 (hr:=rv_row (hl:=hlen)) (hp:=rfl)|refine Ta ?_|(refine Tm ?_;intro _)|refine WO.does (l_row (hl:=hlen)) ?_|refine WO.stores (s_row (hl:=hlen) (hc:=by simp[woC_length])) ?_|refine Tc ?_|exact Tz)
end Sx
end Go.Proofs.YtiiacjladnljhaaGreatDoor
namespace Go.Proofs.YtiiacjladnljhaaGreatDoor
open Go Go.RowKit Go.BigFrame
namespace Sx
attribute [local irreducible] wd DQ DQS WO WC WX
end Sx
end Go.Proofs.YtiiacjladnljhaaGreatDoor
namespace Go.Proofs.YtiiacjladnljhaaGreatDoor
open Go Go.RowKit Go.BigFrame
namespace Sx
attribute [local irreducible] wd DQ DQS WO WC WX
end Sx
end Go.Proofs.YtiiacjladnljhaaGreatDoor
namespace Go.Proofs.YtiiacjladnljhaaGreatDoor
open Go Go.RowKit Go.BigFrame
namespace Sx
attribute [local irreducible] wd DQ DQS WO WC WX
theorem Lle.same:∀ {L:List Ent},Lle L L
  | []=>trivial
  | _::_=>⟨_,_,.here,rfl,Lle.same⟩
theorem Lle.skip {e:Ent} {L:List Ent}:∀ {L' : List Ent},Lle L' L→Lle L' (e::L)
  | [],_=>trivial
  | _::_,⟨cs,L1,h1,h2,h3⟩=>⟨cs,e::L1,.there h1,h2,Lle.skip h3⟩
end Sx
end Go.Proofs.YtiiacjladnljhaaGreatDoor
namespace Go.Proofs.YtiiacjladnljhaaGreatDoor
open Go Go.RowKit Go.BigFrame
namespace Sx
attribute [local irreducible] wd DQ DQS WO WC WX
end Sx
end Go.Proofs.YtiiacjladnljhaaGreatDoor
namespace Go.Proofs.YtiiacjladnljhaaGreatDoor
open Go Go.RowKit Go.BigFrame
namespace Sx
attribute [local irreducible] wd DQ DQS WO WC WX
end Sx
end Go.Proofs.YtiiacjladnljhaaGreatDoor
namespace Go.Proofs.YtiiacjladnljhaaGreatDoor
open Go Go.RowKit Go.BigFrame
namespace Sx
attribute [local irreducible] wd DQ DQS WO WC WX
end Sx
end Go.Proofs.YtiiacjladnljhaaGreatDoor
namespace Go.Proofs.YtiiacjladnljhaaGreatDoor
open Go Go.RowKit
namespace Sx
attribute [local irreducible] DQ DQS WO WC WX
def ofW (l:List Nat) (i:Nat):List Nat:=[dval ((l.take i).take 4),dval (((l.take i).drop 4).take 4),dval (((l.take i).drop 8).take 4),dval (((l.take i).drop 12).take 4)]
theorem sixteen {l:List Nat} (h:l.length=16):∃ a b c d e f g i j k m n o p q r,l=[a,b,c,d,e,f,g,i,j,k,m,n,o,p,q,r]:=by
  match l,h with
  | [a,b,c,d,e,f,g,i,j,k,m,n,o,p,q,r],_=>exact⟨a,b,c,d,e,f,g,i,j,k,m,n,o,p,q,r,rfl⟩
theorem ofW_zero (l:List Nat):ofW l 0=[0,0,0,0]:=rfl
theorem ofW_step {l:List Nat} {i:Nat} (h:l.length=16) (hi:i<16):(ofW l i).set (i / 4) ((ofW l i).getD (i / 4) 0+l.getD i 0*2 ^ (16*(i%4)))=ofW l (i+1):=by
  obtain⟨a,b,c,d,e,f,g,u,j,k,m,n,o,p,q,r,rfl⟩:=sixteen h
  match i,hi with
  | 0,_|1,_|2,_|3,_|4,_|5,_|6,_|7,_|8,_|9,_|10,_|11,_|12,_|13,_|14,_|15,_ =>
    simp[ofW,dval]
    try omega
  | n+16,h=>omega
theorem ofW_lt {l:List Nat} {i:Nat} (h:l.length=16) (hl:∀ d∈l,d<65536) (hi:i<16):(ofW l i).getD (i / 4) 0+l.getD i 0*2 ^ (16*(i%4))<18446744073709551616:=by
  obtain⟨a,b,c,d,e,f,g,u,j,k,m,n,o,p,q,r,rfl⟩:=sixteen h
  simp only[List.mem_cons,List.not_mem_nil,or_false,forall_eq_or_imp,forall_eq] at hl
  match i,hi with
  | 0,_|1,_|2,_|3,_|4,_|5,_|6,_|7,_|8,_|9,_|10,_|11,_|12,_|13,_|14,_|15,_ =>
    simp[ofW,dval]
    omega
  | n+16,h=>omega
theorem ofW_full {l:List Nat} (h:l.length=16) (hl:∀ d∈l,d<65536):Value.agg (woC (ofW l 16)).toArray=numV (dval l):=by
  obtain⟨a,b,c,d,e,f,g,u,j,k,m,n,o,p,q,r,rfl⟩:=sixteen h
  simp only[List.mem_cons,List.not_mem_nil,or_false,forall_eq_or_imp,forall_eq] at hl
  have:=numV_of (a:=a+65536*(b+65536*(c+65536*d))) (b:=e+65536*(f+65536*(g+65536*u))) (c:=j+65536*(k+65536*(m+65536*n))) (d:=o+65536*(p+65536*(q+65536*r))) (by omega) (by omega) (by omega) (by omega)
  have e:val4 (a+65536*(b+65536*(c+65536*d))) (e+65536*(f+65536*(g+65536*u))) (j+65536*(k+65536*(m+65536*n))) (o+65536*(p+65536*(q+65536*r)))=dval [a,b,c,d,e,f,g,u,j,k,m,n,o,p,q,r]:=by
    simp only[val4,dval];omega
  rw[← e,← this]
  rfl
set_option maxHeartbeats 1000000 in
theorem r_of (l:List Nat) (b o c:Nat) (h:l.length=16) (hl:∀ d∈l,d<65536):Fn Tryz.prog 239 [.slice (some ⟨b,o,none⟩) 16 c] (fun w=>Seg w b o (woC l)) (Is (numV (dval l))):=by
  have hstep:=fun i (hi:i<16)=>ofW_step (l:=l) h hi
  have hlt2:=fun i (hi:i<16)=>ofW_lt (l:=l) h hl hi
  have hfull:=ofW_full h hl
  have hz:=ofW_zero l
  have hlen:∀ i,(ofW l i).length=4:=fun _=>rfl
  rw[← hfull]
  generalize ofW l=F at *
  refine Fn.enter Tryz.func239 rfl rfl rfl ?_
  intro w hw
  repeat (first|refine Ta ?_|(refine Tm ?_;intro _)|refine Tc ?_|exact Tz)
  rename_i g2 g3
  refine WC.loopI (σ:=Nat) (fun i=>i≤16) (fun i=>[(0,.slice (some ⟨b,o,none⟩) 16 c),(2,pt g2),(3,pt g3),(4,.int .i64 (i:Int))]) (fun i=>[⟨g2,24,woC [0,0,0,0]⟩,⟨g3,24,woC (F i)⟩]) (fun i=>16 - i) 0 (fun i hi=>?_) (Nat.zero_le _) (by repeat (first|exact Kle.nil|refine Kle.cons rfl rfl ?_)) (by
      rw[hz]
      repeat (first|exact Lle.nil|refine Lle.cons (by repeat (first|exact Pk.here|apply Pk.there)) rfl ?_))
  try dsimp only at hi ⊢
  by_cases hlt:i<16
  · have hq:=quo_i64 i 4 (by omega)
    have hr:=rem_nat i 4
    have hm:=mul_i64 16 (i%4) (by omega)
    have hs2:=hlt2 i hlt
    have hs:=shl_u64 (l.getD i 0) (16*(i%4)) (by omega) (by omega)
    have ha:=add_u64 ((F i).getD (i / 4) 0) (l.getD i 0*2 ^ (16*(i%4))) hs2
    have hset:=hstep i hlt
    have hli:=hlen i
    have hget:(woC l)[o+i - o]?=some (.int .u64 ((l.getD i 0:Nat):Int)):=by rw[Nat.add_sub_cancel_left];exact woC_getD (by omega)
    repeat (first|refine Ta ?_|(refine Tm ?_;intro _)|refine Tc ?_|exact Tz)
    refine WC.dT rfl (by omega) ?_
    repeat (first|refine Ta ?_|(refine Tm ?_;intro _)|refine Tc ?_|exact Tz)
    refine WC.adraw 16 (k:=?_)
    repeat (first|refine Da ?_|refine DQ.does (fun s _=>does_quo rfl rfl (by decide) hq) Dp.const ?_|refine DQ.does (fun s _=>l_word (hi:=by omega)) Dp.const ?_|refine DQ.does (fun s _=>does_rem rfl rfl (by decide) hr) Dp.const ?_|refine DQ.does (fun s _=>does_mul rfl rfl hm) Dp.const ?_|refine DQ.does (fun s _=>does_shl rfl rfl (by omega) hs) Dp.const ?_|refine DQ.does (fun s _=>does_add rfl rfl ha) Dp.const ?_|refine Dc ?_)
    refine DQ.anil (k:=?_)
    intro sx _
    repeat (first|refine Ta ?_|(refine Tm ?_;intro _)|refine WO.stores (s_word (hi:=by omega)) ?_|refine Tc ?_|exact Tz)
    rw[hset]
    refine WX.metI (i+1) (hs:=⟨by show i+1≤16;omega,by show 16 - (i+1)<16 - i;omega⟩)
  · have hi16:i=16:=by omega
    rw[show F i=F 16 by rw[hi16]]
    repeat (first|refine Ta ?_|(refine Tm ?_;intro _)|refine Tc ?_|exact Tz)
    refine WC.dF rfl (by omega) ?_
    repeat (first|exact WX.aret1 (hr:=rv_row (hl:=hlen 16)) (hp:=rfl)|refine Ta ?_|(refine Tm ?_;intro _)|refine WO.does (l_row (hl:=hlen 16)) ?_|refine WO.stores (s_row (hl:=hlen 16) (hc:=by simp[woC_length])) ?_|refine Tc ?_|exact Tz)
end Sx
end Go.Proofs.YtiiacjladnljhaaGreatDoor
namespace Go.Proofs.YtiiacjladnljhaaGreatDoor
open Go Go.RowKit
namespace Sx
attribute [local irreducible] wd DQ DQS WO WC WX
theorem dgs_getD {a i:Nat} (h:i<16):(dgs 16 a).getD i 0=a / 65536 ^ i%65536:=by rw[List.getD,dgs_get a h];rfl
theorem div_step (a i:Nat):a / 65536 ^ i=65536*(a / 65536 ^ (i+1))+a / 65536 ^ i%65536:=by
  rw[Nat.pow_succ,← Nat.div_div_eq_div_mul];omega
theorem lt_of_div {a b m:Nat} (h:a / m<b / m):a<b:=by
  rcases Nat.lt_or_ge a b with h1|h1
  · exact h1
  · have:=Nat.div_le_div_right (c:=m) h1;omega
set_option maxHeartbeats 1000000 in
theorem r_Cmp (a b:Nat) (ha:a<B256) (hb:b<B256):Fn Tryz.prog 110 [numV a,numV b] Tr (Is (.int .i64 (cmpN a b))):=by
  have hA:=r_Digits a ha
  have hB:=r_Digits b hb
  have dA:∀ i,i<16→a / 65536 ^ i=65536*(a / 65536 ^ (i+1))+(dgs 16 a).getD i 0:=fun i hi=>by rw[dgs_getD hi];exact div_step a i
  have dB:∀ i,i<16→b / 65536 ^ i=65536*(b / 65536 ^ (i+1))+(dgs 16 b).getD i 0:=fun i hi=>by rw[dgs_getD hi];exact div_step b i
  have hlA:=dgs_length 16 a
  have hlB:=dgs_length 16 b
  have h16:a / 65536 ^ 16=b / 65536 ^ 16:=by rw[Nat.div_eq_of_lt (by rw[B256_digits];exact ha),Nat.div_eq_of_lt (by rw[B256_digits];exact hb)]
  generalize dgs 16 a=D at *
  generalize dgs 16 b=E at *
  refine Fn.enter Tryz.func110 rfl rfl rfl ?_
  intro w hw
  repeat (first|refine Ta ?_|(refine Tm ?_;intro _)|refine WO.acall (hc:=hA) (k:=?_)|refine WO.acall (hc:=hB) (k:=?_)|refine WO.stores (s_row (hl:=hlA) (hc:=by rfl)) ?_|refine WO.stores (s_row (hl:=hlB) (hc:=by rfl)) ?_|refine Tc ?_|exact Tz)
  rename_i g2 g3 g5 g6
  refine WC.loopI (σ:=Nat) (fun j=>j≤16∧a / 65536 ^ j=b / 65536 ^ j) (fun j=>[(5,pt g5),(6,pt g6),(7,.int .i64 ((j:Int) - 1))]) (fun j=>[⟨g5,259,woC D⟩,⟨g6,259,woC E⟩]) (fun j=>j) 16 (fun j hj=>?_) ⟨Nat.le_refl _,h16⟩
  try dsimp only at hj ⊢
  obtain⟨hj,he⟩:=hj
  cases j with
  | zero =>
    rw[show cmpN a b=0 from cmpN_eq (by simpa using he)]
    repeat (first|refine Ta ?_|(refine Tm ?_;intro _)|refine Tc ?_|exact Tz)
  | succ i =>
    have hi:i<16:=by omega
    have h1:=dA i hi
    have h2:=dB i hi
    rw[show (((i+1:Nat):Int) - 1)=(i:Int) by omega]
    repeat (first|refine Ta ?_|(refine Tm ?_;intro _)|refine Tc ?_|exact Tz)
    refine WC.adraw 7 (k:=?_)
    repeat (first|refine Da ?_|refine DQ.does (fun s _=>l_word (hi:=by omega)) Dp.const ?_|refine Dc ?_)
    refine DQ.anil (k:=?_)
    intro sx _
    by_cases hlt:((D.getD i 0:Nat):Int)<((E.getD i 0:Nat):Int)
    · rw[show cmpN a b = -1 from cmpN_lt (lt_of_div (m:=65536 ^ i) (by omega))]
      repeat (first|refine Ta ?_|(refine Tm ?_;intro _)|refine Tc ?_|exact Tz)
      refine WC.dT rfl hlt ?_
      repeat (first|refine Ta ?_|(refine Tm ?_;intro _)|refine Tc ?_|exact Tz)
    · repeat (first|refine Ta ?_|(refine Tm ?_;intro _)|refine Tc ?_|exact Tz)
      refine WC.dF rfl hlt ?_
      repeat (first|refine Ta ?_|(refine Tm ?_;intro _)|refine Tc ?_|exact Tz)
      refine WC.adraw 7 (k:=?_)
      repeat (first|refine Da ?_|refine DQ.does (fun s _=>l_word (hi:=by omega)) Dp.const ?_|refine Dc ?_)
      refine DQ.anil (k:=?_)
      intro sx _
      by_cases hgt:((E.getD i 0:Nat):Int)<((D.getD i 0:Nat):Int)
      · rw[show cmpN a b=1 from cmpN_gt (lt_of_div (m:=65536 ^ i) (by omega))]
        repeat (first|refine Ta ?_|(refine Tm ?_;intro _)|refine Tc ?_|exact Tz)
        refine WC.dT rfl hgt ?_
        repeat (first|refine Ta ?_|(refine Tm ?_;intro _)|refine Tc ?_|exact Tz)
      · repeat (first|refine Ta ?_|(refine Tm ?_;intro _)|refine Tc ?_|exact Tz)
        refine WC.dF rfl hgt ?_
        repeat (first|refine Ta ?_|(refine Tm ?_;intro _)|refine Tc ?_|exact Tz)
        refine WX.metI i (hs:=⟨⟨by omega,by omega⟩,by show i<i+1;omega⟩)
theorem bit_of_digit {a i:Nat}:a / 65536 ^ (i / 16)%65536 / 2 ^ (i%16)%2=a / 2 ^ i%2:=by
  have e:a / 2 ^ i=a / 65536 ^ (i / 16) / 2 ^ (i%16):=by
    rw[Nat.div_div_eq_div_mul,show (65536:Nat)=2 ^ 16 by decide,← Nat.pow_mul,← Nat.pow_add]
    congr 2;omega
  rw[e]
  generalize a / 65536 ^ (i / 16)=x
  have hr:i%16<16:=Nat.mod_lt _ (by decide)
  generalize i%16=r at *
  match r,hr with
  | 0,_|1,_|2,_|3,_|4,_|5,_|6,_|7,_|8,_|9,_|10,_|11,_|12,_|13,_|14,_|15,_=>simp only[Nat.reducePow];omega
  | n+16,h=>omega
set_option maxHeartbeats 1000000 in
theorem r_Bit (a i:Nat) (ha:a<B256) (hi:i<256):Fn Tryz.prog 214 [numV a,.int .i64 (i:Int)] Tr (Is (.int .u64 ((bitN a i:Nat):Int))):=by
  have hA:=r_Digits a ha
  have hlA:=dgs_length 16 a
  have hd:(dgs 16 a).getD (i / 16) 0 / 2 ^ (i%16)%2=bitN a i:=by rw[dgs_getD (by omega),bit_of_digit];rfl
  have hR:bitN a i<2:=Nat.mod_lt _ (by decide)
  generalize bitN a i=R at *
  have hcv:IntKind.u64.wrap (R:Int)=(R:Int):=u64_in (by omega) (by omega)
  generalize dgs 16 a=D at *
  have hq:=quo_i64 i 16 (by omega)
  have hr:=rem_nat i 16
  have hs:=shr_u64 (D.getD (i / 16) 0) (i%16) (by omega)
  have hr2:=rem_nat (D.getD (i / 16) 0 / 2 ^ (i%16)) 2
  rw[hd] at hr2
  refine Fn.enter Tryz.func214 rfl rfl rfl ?_
  intro w hw
  have h1:decide ((i:Int)<0)=false:=by simp
  have h2:decide ((255:Int)<(i:Int))=false:=by simp;omega
  repeat (first|refine Ta ?_|(refine Tm ?_;intro _)|refine Tc ?_|exact Tz)
  rw[h1]
  repeat (first|refine Ta ?_|(refine Tm ?_;intro _)|refine Tc ?_|exact Tz)
  rw[h2]
  repeat (first|refine Ta ?_|(refine Tm ?_;intro _)|refine WO.acall (hc:=hA) (k:=?_)|refine WO.stores (s_row (hl:=hlA) (hc:=by rfl)) ?_|refine WO.does (does_quo rfl rfl (by decide) hq) ?_|refine WO.does (l_word (hi:=by omega)) ?_|refine Tc ?_|exact Tz)
  refine WO.does (does_rem rfl rfl (by decide) hr) ?_
  refine WO.does (does_shr rfl rfl (by omega) hs) ?_
  refine WO.does (does_rem rfl rfl (by decide) hr2) ?_
  repeat (first|refine Ta ?_|(refine Tm ?_;intro _)|refine WO.does (does_conv rfl hcv) ?_|refine Tc ?_|exact Tz)
end Sx
end Go.Proofs.YtiiacjladnljhaaGreatDoor
namespace Go.Proofs.YtiiacjladnljhaaGreatDoor
open Go Go.RowKit
namespace Sx
attribute [local irreducible] wd DQ DQS WO WC WX
set_option maxHeartbeats 1000000 in
theorem r_Bits (a:Nat) (ha:a<B256):Fn Tryz.prog 212 [numV a] Tr (Is (.int .i64 ((bitsN a:Nat):Int))):=by
  have hB:=fun i (hi:i<256)=>r_Bit a i ha hi
  have h256:a<2 ^ 256:=by simpa [B256] using ha
  refine Fn.enter Tryz.func212 rfl rfl rfl ?_
  intro w hw
  repeat (first|refine Ta ?_|(refine Tm ?_;intro _)|refine Tc ?_|exact Tz)
  rename_i g1
  refine WC.loopI (σ:=Nat) (fun j=>j≤256∧a<2 ^ j) (fun j=>[(1,pt g1),(3,.int .i64 ((j:Int) - 1))]) (fun j=>[⟨g1,24,numC a⟩]) (fun j=>j) 256 (fun j hj=>?_) ⟨Nat.le_refl _,h256⟩
  try dsimp only at hj ⊢
  obtain⟨hj,he⟩:=hj
  cases j with
  | zero =>
    have:a=0:=by simpa using he
    subst this
    rw[bitsN_zero]
    repeat (first|refine Ta ?_|(refine Tm ?_;intro _)|refine Tc ?_|exact Tz)
  | succ i =>
    have h1:=hB i (by omega)
    rw[show (((i+1:Nat):Int) - 1)=(i:Int) by omega]
    rcases bitN_two a i with e|e
    · rw[e] at h1
      have:a<2 ^ i:=by
        unfold bitN at e
        rcases Nat.lt_or_ge a (2 ^ i) with h|h
        · exact h
        · have h2:0<a / 2 ^ i:=Nat.div_pos h (Nat.two_pow_pos i)
          have h3:a / 2 ^ i<2:=by rw[Nat.div_lt_iff_lt_mul (Nat.two_pow_pos i)];rw[Nat.pow_succ] at he;omega
          omega
      repeat (first|refine Ta ?_|(refine Tm ?_;intro _)|refine WO.acall (hc:=h1) (k:=?_)|refine Tc ?_|exact Tz)
      refine WX.metI i (hs:=⟨⟨by omega,this⟩,by show i<i+1;omega⟩)
    · rw[e] at h1
      have:bitsN a=i+1:=by
        unfold bitN at e
        refine bitsN_unique (by omega) ?_ he
        rw[Nat.add_sub_cancel]
        rcases Nat.lt_or_ge a (2 ^ i) with h|h
        · rw[Nat.div_eq_of_lt h] at e;simp at e
        · exact h
      rw[this]
      repeat (first|refine Ta ?_|(refine Tm ?_;intro _)|refine WO.acall (hc:=h1) (k:=?_)|refine WO.does (a_add (hr:=by exact i64_in' (by omega) (by omega) (by rfl))) ?_|refine Tc ?_|exact Tz)
theorem take_set_succ {x:List Nat} {i v:Nat} (h:i<x.length):dval ((x.set i v).take (i+1))=dval (x.take i)+65536 ^ i*v:=by
  rw[dval_take_succ (by simpa using h),List.take_set_of_le (Nat.le_refl i)]
  simp[List.getD,h]
theorem drop_set_succ {x:List Nat} {i v:Nat}:(x.set i v).drop (i+1)=x.drop (i+1):=by rw[List.drop_set_of_lt (by omega)]
theorem getD_drop {x X:List Nat} {i:Nat} (h:x.drop i=X.drop i):x.getD i 0=X.getD i 0:=by
  have h1:(x.drop i)[0]?=(X.drop i)[0]?:=by rw[h]
  simp only[List.getElem?_drop,Nat.add_zero] at h1
  simp only[List.getD,h1]
theorem drop_succ_of {x X:List Nat} {i:Nat} (h:x.drop i=X.drop i):x.drop (i+1)=X.drop (i+1):=by
  rw[← List.drop_drop,← List.drop_drop,h]
theorem mem_set_lt {x:List Nat} {i v m:Nat} (h:∀ d∈x,d<m) (hv:v<m):∀ d∈x.set i v,d<m:=fun d hd=>by
  rcases List.mem_or_eq_of_mem_set hd with h1|h1
  · exact h d h1
  · omega
theorem dval_full {x:List Nat} {n:Nat} (h:x.length=n):dval (x.take n)=dval x:=by rw[List.take_of_length_le (by omega)]
theorem gD_lt {l:List Nat} {m:Nat} (h:∀ x∈l,x<m) (hm:0<m) (i:Nat):l.getD i 0<m:=by
  unfold List.getD
  cases e:l[i]? with
  | none=>exact hm
  | some x=>exact h x (List.mem_of_getElem? e)
structure SumAt (X Y x:List Nat) (i c:Nat):Prop where
  len:x.length=16
  lt:∀ d∈x,d<65536
  rest:x.drop i=X.drop i
  sum:dval (x.take i)+65536 ^ i*c=dval (X.take i)+dval (Y.take i)
  one:c≤1
theorem SumAt.step {X Y x:List Nat} {i c:Nat} (h:SumAt X Y x i c) (hi:i<16) (hX:X.length=16) (hY:Y.length=16) (hYl:∀ d∈Y,d<65536) :
    SumAt X Y (x.set i ((x.getD i 0+Y.getD i 0+c)%65536)) (i+1) ((x.getD i 0+Y.getD i 0+c) / 65536):=by
  have hx:=gD_lt h.lt (by decide) i
  have hy:=gD_lt hYl (by decide) i
  have h1:=h.one
  refine⟨by simpa using h.len,mem_set_lt h.lt (Nat.mod_lt _ (by decide)),by rw[drop_set_succ];exact drop_succ_of h.rest,?_,by omega⟩
  have:=h.len
  rw[take_set_succ (by omega),dval_take_succ (by omega),dval_take_succ (by omega),← getD_drop h.rest,Nat.pow_succ]
  have hs:=h.sum
  generalize x.getD i 0=u at *
  generalize Y.getD i 0=v at *
  generalize 65536 ^ i=P at *
  have e:u+v+c=65536*((u+v+c) / 65536)+(u+v+c)%65536:=(Nat.div_add_mod _ _).symm
  generalize (u+v+c) / 65536=q at *
  generalize (u+v+c)%65536=r at *
  have e2:P*(u+v+c)=P*(65536*q+r):=by rw[e]
  rw[Nat.mul_add,Nat.mul_add,Nat.mul_add] at e2
  rw[← Nat.mul_assoc] at e2
  omega
set_option maxHeartbeats 1000000 in
theorem r_Add (a b:Nat) (ha:a<B256) (hb:b<B256):Fn Tryz.prog 238 [numV a,numV b] Tr (Is (.tuple #[numV ((a+b)%B256),.int .u64 (((a+b) / B256:Nat):Int)])):=by
  have hA:=r_Digits a ha
  have hB:=r_Digits b hb
  have hlA:=dgs_length 16 a
  have hlB:=dgs_length 16 b
  have hltA:=dgs_lt 16 a
  have hltB:=dgs_lt 16 b
  have hvA:dval (dgs 16 a)=a:=by rw[dval_dgs,B256_digits,Nat.mod_eq_of_lt ha]
  have hvB:dval (dgs 16 b)=b:=by rw[dval_dgs,B256_digits,Nat.mod_eq_of_lt hb]
  have hO:=fun l g hl hlt=>r_of l g 0 16 hl hlt
  generalize dgs 16 a=X at *
  generalize dgs 16 b=Y at *
  have h0:SumAt X Y X 0 0:=⟨hlA,hltA,rfl,by simp[dval],by decide⟩
  refine Fn.enter Tryz.func238 rfl rfl rfl ?_
  intro w hw
  repeat (first|refine Ta ?_|(refine Tm ?_;intro _)|refine WO.acall (hc:=hA) (k:=?_)|refine WO.acall (hc:=hB) (k:=?_)|refine WO.stores (s_row (hl:=hlA) (hc:=by rfl)) ?_|refine WO.stores (s_row (hl:=hlB) (hc:=by rfl)) ?_|refine Tc ?_|exact Tz)
  rename_i g2 g3 g4 g6 g7
  refine WC.loopI (σ:=Nat × List Nat × Nat) (fun s=>s.1≤16∧SumAt X Y s.2.1 s.1 s.2.2) (fun s=>[(4,pt g4),(6,pt g6),(7,pt g7),(8,.int .u64 (s.2.2:Int)),(9,.int .i64 (s.1:Int))]) (fun s=>[⟨g4,24,numC 0⟩,⟨g6,259,woC s.2.1⟩,⟨g7,259,woC Y⟩]) (fun s=>16 - s.1) (0,X,0) (fun s hs=>?_) ⟨Nat.zero_le _,h0⟩
  obtain⟨i,x,c⟩:=s
  obtain⟨hi,hS⟩:=hs
  dsimp only at hi hS ⊢
  have hlx:=hS.len
  have hc1:=hS.one
  by_cases hlt:i<16
  · have hn:=hS.step hlt hlA hlB hltB
    have hux:=gD_lt hS.lt (by decide) i
    have huy:=gD_lt hltB (by decide) i
    have a1:=add_u64 (x.getD i 0) (Y.getD i 0) (by omega)
    have a2:=add_u64 (x.getD i 0+Y.getD i 0) c (by omega)
    have r1:=rem_nat (x.getD i 0+Y.getD i 0+c) 65536
    have q1:=quo_u64 (x.getD i 0+Y.getD i 0+c) 65536 (by omega)
    repeat (first|refine Ta ?_|(refine Tm ?_;intro _)|refine Tc ?_|exact Tz)
    refine WC.dT rfl (by omega) ?_
    repeat (first|refine Ta ?_|(refine Tm ?_;intro _)|refine Tc ?_|exact Tz)
    refine WC.adraw 10 (k:=?_)
    repeat (first|refine Da ?_|refine DQ.does (fun s _=>l_word (hi:=by omega)) Dp.const ?_|refine DQ.does (fun s _=>does_add rfl rfl a1) Dp.const ?_|refine DQ.does (fun s _=>does_add rfl rfl a2) Dp.const ?_|refine Dc ?_)
    refine DQ.anil (k:=?_)
    intro sx _
    repeat (first|refine Ta ?_|(refine Tm ?_;intro _)|refine WO.does (does_rem rfl rfl (by decide) r1) ?_|refine WO.stores (s_word (hi:=by omega)) ?_|refine WO.does (does_quo rfl rfl (by decide) q1) ?_|refine Tc ?_|exact Tz)
    refine WX.metI (i+1,x.set i ((x.getD i 0+Y.getD i 0+c)%65536),(x.getD i 0+Y.getD i 0+c) / 65536) (hs:=⟨⟨by show i+1≤16;omega,hn⟩,by show 16 - (i+1)<16 - i;omega⟩)
  · have hi16:i=16:=by omega
    have hsum:=hS.sum
    rw[hi16,dval_full hlx,dval_full hlA,dval_full hlB,B256_digits,hvA,hvB] at hsum
    have hxl:=dval_lt hS.lt
    rw[hlx,B256_digits] at hxl
    have e1:(a+b)%B256=dval x:=by rw[← hsum,Nat.add_mul_mod_self_left,Nat.mod_eq_of_lt hxl]
    have e2:(a+b) / B256=c:=by rw[← hsum,Nat.add_mul_div_left _ _ B256_zero,Nat.div_eq_of_lt hxl,Nat.zero_add]
    rw[e1,e2]
    have hxo:=fun g=>hO x g hlx hS.lt
    generalize dval x=R at *
    repeat (first|refine Ta ?_|(refine Tm ?_;intro _)|refine Tc ?_|exact Tz)
    refine WC.dF rfl (by omega) ?_
    repeat (first|refine Ta ?_|(refine Tm ?_;intro _)|refine WO.does (does_sliceA rfl) ?_|refine WO.acallR (hc:=hxo _) (hR:=fun w' hm=>Hs.seg (by repeat (first|exact Hs.here|apply Hs.there)) hm) (k:=?_)|refine Tc ?_|exact Tz)
end Sx
end Go.Proofs.YtiiacjladnljhaaGreatDoor
