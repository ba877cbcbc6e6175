/- Part 8 of the proof: SxF, SxG -/
import Derived.Test.YtiiacjladnljhaaGreatDoorM07
set_option linter.unusedSimpArgs false
set_option linter.unusedVariables false
namespace Go.Proofs.YtiiacjladnljhaaGreatDoor
open Go Go.RowKit Go.BigFrame
namespace Sx
theorem i64_in {x:Int} (h1 : -9223372036854775808≤x) (h2:x≤9223372036854775807):IntKind.i64.wrap x=x:=by
  simp[IntKind.wrap,IntKind.signed,IntKind.bits];split<;>omega
theorem u64_in {x:Int} (h1:0≤x) (h2:x≤18446744073709551615):IntKind.u64.wrap x=x:=by
  simp only[IntKind.wrap,IntKind.signed,IntKind.bits];simp;omega
theorem u32_in {x:Int} (h1:0≤x) (h2:x≤4294967295):IntKind.u32.wrap x=x:=by
  simp only[IntKind.wrap,IntKind.signed,IntKind.bits];simp;omega
theorem u8_in {x:Int} (h1:0≤x) (h2:x≤255):IntKind.u8.wrap x=x:=by
  simp only[IntKind.wrap,IntKind.signed,IntKind.bits];simp;omega
theorem i64_in' {x r:Int} (h1 : -9223372036854775808≤x) (h2:x≤9223372036854775807) (e:x=r):IntKind.i64.wrap x=r:=(i64_in h1 h2).trans e
theorem u64_in' {x r:Int} (h1:0≤x) (h2:x≤18446744073709551615) (e:x=r):IntKind.u64.wrap x=r:=(u64_in h1 h2).trans e
theorem u32_in' {x r:Int} (h1:0≤x) (h2:x≤4294967295) (e:x=r):IntKind.u32.wrap x=r:=(u32_in h1 h2).trans e
theorem u8_in' {x r:Int} (h1:0≤x) (h2:x≤255) (e:x=r):IntKind.u8.wrap x=r:=(u8_in h1 h2).trans e
section
variable {P:Program} {w0:World} {gs:List Nat} {K:List (Nat × Value)} {L:List Ent}
theorem a_move {x:Operand} {ty:TypeId} {v:Value} (hx:ev K x=some v:=by rfl):Does P w0 gs K L (.move x) ty v:=does_move hx
theorem a_assign {x:Operand} {ty:TypeId} {v:Value} (hx:ev K x=some v:=by rfl):Does P w0 gs K L (.assign x) ty v:=does_assign hx
theorem a_pickT {c x y:Operand} {ty:TypeId} {v:Value} (hc:ev K c=some (.bool true):=by rfl) (hx:ev K x=some v:=by rfl):Does P w0 gs K L (.pick c x y) ty v:=does_pickT hc hx
theorem a_pickF {c x y:Operand} {ty:TypeId} {v:Value} (hc:ev K c=some (.bool false):=by rfl) (hy:ev K y=some v:=by rfl):Does P w0 gs K L (.pick c x y) ty v:=does_pickF hc hy
theorem a_load {t g off t' n:Nat} {cs vs:List Value} {x:Operand} {ty:TypeId} [AgT P t n] (hx:ev K x=some (.pointer (some ⟨g,off,none⟩)):=by rfl)
    (hm:Hs L g t' cs:=by (repeat (first|exact Hs.here|apply Hs.there))) (hc:cut cs off n=vs:=by (first|(simp only[cut,numV,numC,List.drop_succ_cons,List.drop_zero,List.take_succ_cons,List.take_zero,List.drop_nil,List.take_nil]<;>rfl)|rfl)) (hl:vs.length=n:=by rfl) :
    Does P w0 gs K L (.load t x) ty (.agg vs.toArray):=does_load hx hm hc hl
theorem a_load1 {t g off t' : Nat} {cs:List Value} {v:Value} {x:Operand} {ty:TypeId} [OnT P t] (hx:ev K x=some (.pointer (some ⟨g,off,none⟩)):=by rfl)
    (hm:Hs L g t' cs:=by (repeat (first|exact Hs.here|apply Hs.there))) (hc:cs[off]?=some v:=by rfl):Does P w0 gs K L (.load t x) ty v:=does_load1 hx hm hc
theorem a_fieldAddr {s i off g o o' : Nat} {x:Operand} {ty:TypeId} [FlT P s i off] (hx:ev K x=some (.pointer (some ⟨g,o,none⟩)):=by rfl) (ho:o+off=o':=by (first|(simp only[Nat.reduceAdd,Nat.zero_add]<;>rfl)|rfl)) :
    Does P w0 gs K L (.fieldAddr s x i) ty (.pointer (some ⟨g,o',none⟩)):=does_fieldAddr hx ho
theorem a_nilCheck {x:Operand} {ty:TypeId} {p:Addr} (hx:ev K x=some (.pointer (some p)):=by rfl):Does P w0 gs K L (.nilCheck x) ty (.pointer (some p)):=does_nilCheck hx
theorem a_indexAddr {t g o i len elem size o' : Nat} {k:IntKind} {x y:Operand} {ty:TypeId} [ArT P t len elem size] (hx:ev K x=some (.pointer (some ⟨g,o,none⟩)):=by rfl)
    (hy:ev K y=some (.int k (i:Int)):=by rfl) (hi:i<len:=by omega) (ho:o+i*size=o':=by (first|(simp only[Nat.reduceAdd,Nat.reduceMul,Nat.zero_add,Nat.mul_one,Nat.zero_mul,Nat.add_zero]<;>rfl)|rfl)):Does P w0 gs K L (.indexAddr t x y) ty (.pointer (some ⟨g,o',none⟩)):=does_indexAddr hx hy hi ho
theorem a_indexSlice {t g o i len cap elem size o' : Nat} {k:IntKind} {x y:Operand} {ty:TypeId} [SlT P t elem size] (hx:ev K x=some (.slice (some ⟨g,o,none⟩) len cap):=by rfl)
    (hy:ev K y=some (.int k (i:Int)):=by rfl) (hi:i<len:=by omega) (ho:o+i*size=o':=by (first|(simp only[Nat.reduceAdd,Nat.reduceMul,Nat.zero_add,Nat.mul_one,Nat.zero_mul,Nat.add_zero]<;>rfl)|rfl)):Does P w0 gs K L (.indexAddr t x y) ty (.pointer (some ⟨g,o',none⟩)):=does_indexSlice hx hy hi ho
theorem a_indexAddrC {t g o len elem size o' : Nat} {m:Int} {k:IntKind} {x y:Operand} {ty:TypeId} [ArT P t len elem size] (hx:ev K x=some (.pointer (some ⟨g,o,none⟩)):=by rfl)
    (hy:ev K y=some (.int k m):=by rfl) (h0:0≤m:=by omega) (hi:m<(len:Int):=by omega) (ho:o+m.toNat*size=o':=by (first|(simp only[Int.reduceToNat,Nat.reduceAdd,Nat.reduceMul,Nat.zero_add,Nat.mul_one,Nat.zero_mul,Nat.add_zero]<;>rfl)|rfl)):Does P w0 gs K L (.indexAddr t x y) ty (.pointer (some ⟨g,o',none⟩)) :=
  does_indexAddr hx (by rw[hy,Int.toNat_of_nonneg h0]) (by omega) ho
theorem a_indexSliceC {t g o len cap elem size o' : Nat} {m:Int} {k:IntKind} {x y:Operand} {ty:TypeId} [SlT P t elem size] (hx:ev K x=some (.slice (some ⟨g,o,none⟩) len cap):=by rfl)
    (hy:ev K y=some (.int k m):=by rfl) (h0:0≤m:=by omega) (hi:m<(len:Int):=by omega) (ho:o+m.toNat*size=o':=by (first|(simp only[Int.reduceToNat,Nat.reduceAdd,Nat.reduceMul,Nat.zero_add,Nat.mul_one,Nat.zero_mul,Nat.add_zero]<;>rfl)|rfl)):Does P w0 gs K L (.indexAddr t x y) ty (.pointer (some ⟨g,o',none⟩)) :=
  does_indexSlice hx (by rw[hy,Int.toNat_of_nonneg h0]) (by omega) ho
theorem a_extract {x:Operand} {ty:TypeId} {i:Nat} {vs:List Value} {v:Value} (hx:ev K x=some (.tuple vs.toArray):=by rfl) (hi:vs[i]?=some v:=by rfl):Does P w0 gs K L (.extract x i) ty v:=does_extract hx hi
theorem a_notD {x:Operand} {t ty:TypeId} {p:Prop} [Decidable p] (hx:ev K x=some (.bool (decide p)):=by rfl):Does P w0 gs K L (.unOp .not t x) ty (.bool (decide (¬ p))):=by
  rw[decide_not];exact does_not hx
theorem a_notT {x:Operand} {t ty:TypeId} (hx:ev K x=some (.bool true):=by rfl):Does P w0 gs K L (.unOp .not t x) ty (.bool false):=does_not hx
theorem a_notF {x:Operand} {t ty:TypeId} (hx:ev K x=some (.bool false):=by rfl):Does P w0 gs K L (.unOp .not t x) ty (.bool true):=does_not hx
theorem a_not {x:Operand} {t ty:TypeId} {b:Bool} (hx:ev K x=some (.bool b):=by rfl):Does P w0 gs K L (.unOp .not t x) ty (.bool !b):=does_not hx
theorem a_func {fn:Go.Fn} {first captured:Array Operand} {fs cs:List Value} {ty:TypeId} (h1:evs K first.toList=some fs:=by rfl) (h2:evs K captured.toList=some cs:=by rfl) :
    Does P w0 gs K L (.makeFunc fn first captured) ty (.func fn fs.toArray cs.toArray):=does_func h1 h2
theorem a_add {x y:Operand} {t yt ty:TypeId} {k:IntKind} {m n r:Int} (hx:ev K x=some (.int k m):=by rfl) (hy:ev K y=some (.int k n):=by rfl)
    (hr:k.wrap (m+n)=r:=by first|exact i64_in' (by omega) (by omega) (by first|(simp only[Int.reduceAdd]<;>rfl)|rfl)|exact u8_in' (by omega) (by omega) (by first|(simp only[Int.reduceAdd]<;>rfl)|rfl)|exact u64_in' (by omega) (by omega) (by first|(simp only[Int.reduceAdd]<;>rfl)|rfl)|exact u32_in' (by omega) (by omega) (by first|(simp only[Int.reduceAdd]<;>rfl)|rfl)|rfl) :
    Does P w0 gs K L (.binOp .add t x y yt) ty (.int k r):=does_add hx hy hr
theorem a_sub {x y:Operand} {t yt ty:TypeId} {k:IntKind} {m n r:Int} (hx:ev K x=some (.int k m):=by rfl) (hy:ev K y=some (.int k n):=by rfl)
    (hr:k.wrap (m - n)=r:=by first|exact i64_in' (by omega) (by omega) (by first|(simp only[Int.reduceSub]<;>rfl)|rfl)|exact u8_in' (by omega) (by omega) (by first|(simp only[Int.reduceSub]<;>rfl)|rfl)|exact u64_in' (by omega) (by omega) (by first|(simp only[Int.reduceSub]<;>rfl)|rfl)|exact u32_in' (by omega) (by omega) (by first|(simp only[Int.reduceSub]<;>rfl)|rfl)|rfl) :
    Does P w0 gs K L (.binOp .sub t x y yt) ty (.int k r):=does_sub hx hy hr
theorem a_mul {x y:Operand} {t yt ty:TypeId} {k:IntKind} {m n r:Int} (hx:ev K x=some (.int k m):=by rfl) (hy:ev K y=some (.int k n):=by rfl)
    (hr:k.wrap (m*n)=r:=by first|exact i64_in' (by omega) (by omega) (by first|(simp only[Int.reduceMul]<;>rfl)|rfl)|exact u8_in' (by omega) (by omega) (by first|(simp only[Int.reduceMul]<;>rfl)|rfl)|exact u64_in' (by omega) (by omega) (by first|(simp only[Int.reduceMul]<;>rfl)|rfl)|exact u32_in' (by omega) (by omega) (by first|(simp only[Int.reduceMul]<;>rfl)|rfl)|rfl) :
    Does P w0 gs K L (.binOp .mul t x y yt) ty (.int k r):=does_mul hx hy hr
theorem a_eql {x y:Operand} {t yt ty:TypeId} {k:IntKind} {m n:Int} (hx:ev K x=some (.int k m):=by rfl) (hy:ev K y=some (.int k n):=by rfl):Does P w0 gs K L (.binOp .eql t x y yt) ty (.bool (decide (m=n))):=does_eql hx hy
theorem a_neq {x y:Operand} {t yt ty:TypeId} {k:IntKind} {m n:Int} (hx:ev K x=some (.int k m):=by rfl) (hy:ev K y=some (.int k n):=by rfl):Does P w0 gs K L (.binOp .neq t x y yt) ty (.bool (decide (m≠n))):=does_neq hx hy
theorem a_lss {x y:Operand} {t yt ty:TypeId} {k:IntKind} {m n:Int} (hx:ev K x=some (.int k m):=by rfl) (hy:ev K y=some (.int k n):=by rfl):Does P w0 gs K L (.binOp .lss t x y yt) ty (.bool (decide (m<n))):=does_lss hx hy
theorem a_leq {x y:Operand} {t yt ty:TypeId} {k:IntKind} {m n:Int} (hx:ev K x=some (.int k m):=by rfl) (hy:ev K y=some (.int k n):=by rfl):Does P w0 gs K L (.binOp .leq t x y yt) ty (.bool (decide (m≤n))):=does_leq hx hy
theorem a_gtr {x y:Operand} {t yt ty:TypeId} {k:IntKind} {m n:Int} (hx:ev K x=some (.int k m):=by rfl) (hy:ev K y=some (.int k n):=by rfl):Does P w0 gs K L (.binOp .gtr t x y yt) ty (.bool (decide (n<m))):=does_gtr hx hy
theorem a_geq {x y:Operand} {t yt ty:TypeId} {k:IntKind} {m n:Int} (hx:ev K x=some (.int k m):=by rfl) (hy:ev K y=some (.int k n):=by rfl):Does P w0 gs K L (.binOp .geq t x y yt) ty (.bool (decide (n≤m))):=does_geq hx hy
theorem a_conv {s t ty:TypeId} {x:Operand} {k k' : IntKind} {n r:Int} [InT P s k'] [InT P t k] (hx:ev K x=some (.int k' n):=by rfl)
    (hr:k.wrap n=r:=by first|exact i64_in' (by omega) (by omega) rfl|exact u8_in' (by omega) (by omega) rfl|exact u64_in' (by omega) (by omega) rfl|exact u32_in' (by omega) (by omega) rfl|rfl):Does P w0 gs K L (.convert s t x) ty (.int k r):=does_conv hx hr
theorem a_lenS {x:Operand} {t ty elem size:Nat} {p:Option Addr} {n c:Nat} [SlT P t elem size] (hx:ev K x=some (.slice p n c):=by rfl) :
    Does P w0 gs K L (.call { callee:=.builtin .len,args:=#[x],argTypes:=#[t] }) ty (.int .i64 (n:Int)):=does_lenS hx
theorem a_buildT {t ty:TypeId} {places:List (Nat × Nat)} {z cs:List Value} {xs:Array (Nat × Operand)} {vs:List (Nat × Value)} [BuT P t places z] (h1:evp K xs.toList=some vs:=by rfl)
    (h2:fillL (nth places) z vs=some cs:=by (first|(simp only[fillL,nth,cellsOf,numV,over,List.length_cons,List.length_nil,List.drop_succ_cons,List.drop_zero,List.take_succ_cons,List.take_zero,List.drop_nil,List.take_nil,List.cons_append,List.nil_append,List.append_nil,Nat.reduceAdd,Nat.beq_refl,Nat.ble_eq,Nat.reduceLeDiff,cond_true,Bool.and_self]<;>rfl)|rfl)):Does P w0 gs K L (.build t xs) ty (.agg cs.toArray):=does_buildT h1 h2
theorem a_buildA {t ty len elem size:Nat} {z cs:List Value} {zv:Value} {xs:Array (Nat × Operand)} {vs:List (Nat × Value)} [ArT P t len elem size] [ZeT P t zv] (hz:zv=.agg z.toArray:=by rfl) (h1:evp K xs.toList=some vs:=by rfl)
    (h2:fillL (fun i=>some (i*size,size)) z vs=some cs:=by rfl):Does P w0 gs K L (.build t xs) ty (.agg cs.toArray):=does_buildA hz h1 h2
theorem a_field {s i off t n ty:Nat} {x:Operand} {cs vs:List Value} [FiT P s i off t] [AgT P t n] (hx:ev K x=some (.agg cs.toArray):=by rfl) (hc:cut cs off n=vs:=by (first|(simp only[cut,numV,numC,List.drop_succ_cons,List.drop_zero,List.take_succ_cons,List.take_zero,List.drop_nil,List.take_nil]<;>rfl)|rfl)) :
    Does P w0 gs K L (.field s x i) ty (.agg vs.toArray):=does_field hx hc
theorem a_field1 {s i off t ty:Nat} {x:Operand} {cs:List Value} {v:Value} [FiT P s i off t] [OnT P t] (hx:ev K x=some (.agg cs.toArray):=by rfl) (hc:cs[off]?=some v:=by rfl) :
    Does P w0 gs K L (.field s x i) ty v:=does_field1 hx hc
theorem a_alloc {t ty:TypeId} {z:Value} {zs:List Value} [ZeT P t z] (hz:cellsOf z=zs:=by (first|(simp only[cellsOf,numV]<;>rfl)|rfl)) :
    Makes P w0 gs K L (.alloc t) ty (fun g=>.pointer (some ⟨g,0,none⟩)) t zs:=makes_alloc hz
theorem a_box {t ty:TypeId} {x:Operand} {v:Value} {cs:List Value} (hx:ev K x=some v:=by rfl) (hc:cellsOf v=cs:=by (first|(simp only[cellsOf,numV]<;>rfl)|rfl)) :
    Makes P w0 gs K L (.box t x) ty (fun g=>.pointer (some ⟨g,0,none⟩)) t cs:=makes_box hx hc
theorem a_store {t n g off t' : Nat} {x y:Operand} {ty:TypeId} {v:Value} {vs cs cs' : List Value} {L' : List Ent} [SzT P t n] (hx:ev K x=some (.pointer (some ⟨g,off,none⟩)):=by rfl)
    (hy:ev K y=some v:=by rfl) (hv:cellsOf v=vs:=by (first|(simp only[cellsOf,numV]<;>rfl)|rfl)) (hl:vs.length=n:=by rfl) (h1:vs.all Value.oneCell'=true:=by rfl) (hm:Hs L g t' cs:=by (repeat (first|exact Hs.here|apply Hs.there)))
    (hc:over cs off vs=cs':=by (first|(simp only[over,numV,numC,List.length_cons,List.length_nil,List.drop_succ_cons,List.drop_zero,List.take_succ_cons,List.take_zero,List.drop_nil,List.take_nil,List.cons_append,List.nil_append,List.append_nil,Nat.reduceAdd]<;>rfl)|rfl))
    (hr:Rp L g t' cs cs' L':=by (repeat (first|exact Rp.here|apply Rp.there))) (hle:Nat.ble (off+vs.length) cs.length=true:=by rfl) (ht:t'≠0:=by decide) :
    Stores P w0 gs K L (.store t x y) ty L':=stores_own hx hy hv hl h1 hr hc (Nat.le_of_ble_eq_true hle) ht
end
section
variable {P:Program} {w0:World} {gs:List Nat} {n:Nat} {ops:List Oper} {Q:Exit→Act→World→Prop} {K:List (Nat × Value)} {L:List Ent} {rest:List Oper}
variable {d:Nat} {op:Op} {ty:TypeId} {pos:String} {after:Array Edge} {gd:Option (Nat × Bool)}
theorem WO.acallV {f:FuncId} [Cal P f] {x:Operand} {xs:Array Operand} {ats:Array TypeId} {as fs cs as' : List Value} {R:World→Prop} {v:Value} (hx:ev K x=some (.func (.func f) fs.toArray cs.toArray):=by rfl) (ha:evs K xs.toList=some as:=by rfl)
    (hh:fs++as++cs=as':=by rfl) (hc:Fn P f as' R (Is v)) (hR:∀ w,Mr w0 gs L w→R w) (k:WO P w0 gs n ops Q ((d,v)::K) L rest)
    (hd:Nat.blt d n=true:=by rfl) (hw:wk ops K gd=some true:=by rfl) :
    WO P w0 gs n ops Q K L (⟨some d,.call { callee:=.value x,args:=xs,argTypes:=ats },ty,pos,after,gd⟩::rest) :=
  WO.calls hc hx ha hh hR (fun u N hu=>by
    cases hu
    exact fun a w hdf hsz hk hme=>k a w hdf hsz hk (hme.sub (List.sublist_append_right _ _))) hd hw
theorem WO.acallR {f:FuncId} [Cal P f] {xs:Array Operand} {ats:Array TypeId} {as:List Value} {R:World→Prop} {v:Value} (ha:evs K xs.toList=some as:=by rfl) (hc:Fn P f as R (Is v)) (hR:∀ w,Mr w0 gs L w→R w) (k:WO P w0 gs n ops Q ((d,v)::K) L rest)
    (hd:Nat.blt d n=true:=by rfl) (hw:wk ops K gd=some true:=by rfl) :
    WO P w0 gs n ops Q K L (⟨some d,.call { callee:=.value (.func f),args:=xs,argTypes:=ats },ty,pos,after,gd⟩::rest):=WO.call hc ha hR k hd hw
theorem WO.acallX {f:FuncId} [Cal P f] {x:Operand} {xs:Array Operand} {ats:Array TypeId} {as fs cs as' : List Value} {R:World→Prop} {vf:(Nat→Nat)→Value} {Nf:(Nat→Nat)→List Ent} {S:(Nat→Nat)→Prop} (hx:ev K x=some (.func (.func f) fs.toArray cs.toArray):=by rfl) (ha:evs K xs.toList=some as:=by rfl)
    (hh:fs++as++cs=as':=by rfl) (hc:Fn P f as' R (Ex vf Nf S)) (hR:∀ w,Mr w0 gs L w→R w) (k:∀ x,S x→WO P w0 gs n ops Q ((d,vf x)::K) (Nf x++L) rest)
    (hd:Nat.blt d n=true:=by rfl) (hw:wk ops K gd=some true:=by rfl) :
    WO P w0 gs n ops Q K L (⟨some d,.call { callee:=.value x,args:=xs,argTypes:=ats },ty,pos,after,gd⟩::rest) :=
  WO.calls hc hx ha hh hR (fun u N ⟨x,e1,e2,e3⟩=>by subst e1;subst e2;exact k x e3) hd hw
theorem a_loadF {t b off o n:Nat} {cs vs:List Value} {x:Operand} {ty:TypeId} [AgT P t n] (hx:ev K x=some (.pointer (some ⟨b,o,none⟩)):=by rfl) (hs:Seg w0 b off cs:=by assumption) (hle:off≤o:=by omega)
    (hb:b ∉ gs:=by (first|(intro h;cases h;done)|assumption)) (hc:cut cs (o - off) n=vs:=by (first|(simp only[cut,numV,numC,Nat.sub_self,Nat.sub_zero,Nat.reduceSub,Nat.add_sub_cancel_left,List.drop_succ_cons,List.drop_zero,List.take_succ_cons,List.take_zero,List.drop_nil,List.take_nil]<;>rfl)|rfl)) (hl:vs.length=n:=by rfl) :
    Does P w0 gs K L (.load t x) ty (.agg vs.toArray):=by
  have e:o=off+(o - off):=by omega
  exact does_loadF hs (by rw[hx,← e]) hb hc hl
theorem a_loadF1 {t b off o:Nat} {cs:List Value} {v:Value} {x:Operand} {ty:TypeId} [OnT P t] (hx:ev K x=some (.pointer (some ⟨b,o,none⟩)):=by rfl) (hs:Seg w0 b off cs:=by assumption) (hle:off≤o:=by omega)
    (hb:b ∉ gs:=by (first|(intro h;cases h;done)|assumption)) (hc:cs[o - off]?=some v:=by (first|rfl|assumption)):Does P w0 gs K L (.load t x) ty v:=by
  have e:o=off+(o - off):=by omega
  exact does_loadF1 hs (by rw[hx,← e]) hb hc
end
section
variable {P:Program} {w0:World} {gs:List Nat} {n:Nat} {ops:List Oper} {Q:Exit→Act→World→Prop} {K:List (Nat × Value)} {L:List Ent} {rest:List Oper}
variable {d:Nat} {op:Op} {ty:TypeId} {pos:String} {after:Array Edge} {gd:Option (Nat × Bool)}
theorem WO.auto {v:Value} (h:Does P w0 gs K L op ty v:=by first
    | exact a_move|exact a_load|exact a_load1|exact a_loadF|exact a_loadF1|exact a_fieldAddr|exact a_extract|exact a_assign|exact a_pickT|exact a_pickF|exact a_indexAddr|exact a_indexSlice|exact a_indexAddrC|exact a_indexSliceC|exact a_buildT|exact a_buildA|exact a_add|exact a_sub|exact a_mul
    | exact a_eql|exact a_neq|exact a_lss|exact a_leq|exact a_gtr|exact a_geq|exact a_conv|exact a_lenS|exact a_notT|exact a_notF|exact a_notD|exact a_not|exact a_func|exact a_field|exact a_field1|exact a_nilCheck)
    (k:WO P w0 gs n ops Q ((d,v)::K) L rest) (hd:Nat.blt d n=true:=by rfl) (hw:wk ops K gd=some true:=by rfl):WO P w0 gs n ops Q K L (⟨some d,op,ty,pos,after,gd⟩::rest):=WO.does h k hd hw
theorem WO.autoM {v:Nat→Value} {t:TypeId} {cs:List Value} (h:Makes P w0 gs K L op ty v t cs:=by first|exact a_box|exact a_alloc)
    (k:∀ g,WO P w0 gs n ops Q ((d,v g)::K) (⟨g,t,cs⟩::L) rest) (hd:Nat.blt d n=true:=by rfl) (hw:wk ops K gd=some true:=by rfl):WO P w0 gs n ops Q K L (⟨some d,op,ty,pos,after,gd⟩::rest):=WO.makes h k hd hw
theorem WO.autoS {L' : List Ent} (h:Stores P w0 gs K L op ty L':=by exact a_store) (k:WO P w0 gs n ops Q K L' rest) (hw:wk ops K gd=some true:=by rfl):WO P w0 gs n ops Q K L (⟨none,op,ty,pos,after,gd⟩::rest):=WO.stores h k hw
theorem WO.acall {f:FuncId} [Cal P f] {xs:Array Operand} {ats:Array TypeId} {as:List Value} {v:Value} (ha:evs K xs.toList=some as:=by rfl) (hc:Fn P f as Tr (Is v)) (k:WO P w0 gs n ops Q ((d,v)::K) L rest)
    (hd:Nat.blt d n=true:=by rfl) (hw:wk ops K gd=some true:=by rfl) :
    WO P w0 gs n ops Q K L (⟨some d,.call { callee:=.value (.func f),args:=xs,argTypes:=ats },ty,pos,after,gd⟩::rest):=WO.call hc ha (fun _ _=>trivial) k hd hw
theorem WC.dT {c:Operand} {x y:Code} {p:Prop} [Decidable p] (hc:ev K c=some (.bool (decide p))) (hp:p) (k:WC P w0 gs n x Q K L):WC P w0 gs n (.cond c x y) Q K L:=WC.condT (by rw[hc,decide_eq_true hp]) k
theorem WC.dF {c:Operand} {x y:Code} {p:Prop} [Decidable p] (hc:ev K c=some (.bool (decide p))) (hp:¬ p) (k:WC P w0 gs n y Q K L):WC P w0 gs n (.cond c x y) Q K L:=WC.condF (by rw[hc,decide_eq_false hp]) k
theorem a_rvc {p t g off t' n:Nat} {cs vs:List Value} [AgT P t n] (hx:lk K p=some (.pointer (some ⟨g,off,none⟩)):=by rfl) (hm:Hs L g t' cs:=by (repeat (first|exact Hs.here|apply Hs.there)))
    (hc:cut cs off n=vs:=by (first|(simp only[cut,numV,numC,List.drop_succ_cons,List.drop_zero,List.take_succ_cons,List.take_zero,List.drop_nil,List.take_nil]<;>rfl)|rfl)) (hl:vs.length=n:=by rfl):Rv P w0 gs K L (.cell p t) (.agg vs.toArray):=rv_cell hx hm hc hl
theorem a_rvc1 {p t g off t' : Nat} {cs:List Value} {v:Value} [OnT P t] (hx:lk K p=some (.pointer (some ⟨g,off,none⟩)):=by rfl) (hm:Hs L g t' cs:=by (repeat (first|exact Hs.here|apply Hs.there))) (hc:cs[off]?=some v:=by rfl):Rv P w0 gs K L (.cell p t) v:=rv_cell1 hx hm hc
theorem WX.aret1 {fn:Func} {post:Value→List Ent→Prop} {v:Value} {r:ResultVar} (hfn:fn.results=#[r]:=by rfl) (hr:Rv P w0 [] K L r v:=by first|exact rv_tmp rfl|exact a_rvc|exact a_rvc1) (hp:post v []) :
    WX w0 [] n .ret (bodyPost P fn (FnPost w0 post)) K L:=WX.ret1 hfn hr [] trivial hp
theorem WX.aret2 {fn:Func} {post:Value→List Ent→Prop} {v1 v2:Value} {r1 r2:ResultVar} (hfn:fn.results=#[r1,r2]:=by rfl) (hr1:Rv P w0 [] K L r1 v1:=by first|exact rv_tmp rfl|exact a_rvc|exact a_rvc1) (hr2:Rv P w0 [] K L r2 v2:=by first|exact rv_tmp rfl|exact a_rvc|exact a_rvc1) (hp:post (.tuple #[v1,v2]) []) :
    WX w0 [] n .ret (bodyPost P fn (FnPost w0 post)) K L:=WX.ret2 hfn hr1 hr2 [] trivial hp
theorem WX.aret3 {fn:Func} {post:Value→List Ent→Prop} {v1 v2 v3:Value} {r1 r2 r3:ResultVar} (hfn:fn.results=#[r1,r2,r3]:=by rfl) (hr1:Rv P w0 [] K L r1 v1:=by first|exact rv_tmp rfl|exact a_rvc|exact a_rvc1) (hr2:Rv P w0 [] K L r2 v2:=by first|exact rv_tmp rfl|exact a_rvc|exact a_rvc1) (hr3:Rv P w0 [] K L r3 v3:=by first|exact rv_tmp rfl|exact a_rvc|exact a_rvc1) (hp:post (.tuple #[v1,v2,v3]) []) :
    WX w0 [] n .ret (bodyPost P fn (FnPost w0 post)) K L:=WX.ret3 hfn hr1 hr2 hr3 [] trivial hp
end
section
open Kp
variable {P:Program} {w0:World} {gs:List Nat} {n:Nat} {fl:List Nat} {Q:Exit→Act→World→Prop} {ops:List Oper} {L0:List Ent}
variable {tail rest:List Oper} {i:Nat} {C:Nums→Prop} {K:Nums→List (Nat × Value)} {N:Nums→List (Nat × Ent)}
variable {d:Nat} {op:Op} {ty:TypeId} {pos:String} {after:Array Edge} {gd:Option (Nat × Bool)}
theorem DQ.auto {v:Nums→Value} (hv:∀ s,C s→Does P w0 gs (K s) L0 op ty (v s):=by (intro s _;first
    | exact a_move|exact a_load|exact a_load1|exact a_loadF|exact a_loadF1|exact a_fieldAddr|exact a_extract|exact a_assign|exact a_pickT|exact a_pickF|exact a_indexAddr|exact a_indexSlice|exact a_indexAddrC|exact a_indexSliceC|exact a_buildT|exact a_buildA|exact a_add|exact a_sub|exact a_mul
    | exact a_eql|exact a_neq|exact a_lss|exact a_leq|exact a_gtr|exact a_geq|exact a_conv|exact a_lenS|exact a_notT|exact a_notF|exact a_notD|exact a_not|exact a_func|exact a_field|exact a_field1|exact a_nilCheck)) (dep:Dp ops i v:=by first|exact Dp.const|(intro s s' h;(try dsimp only);first|rfl|(rw[h]<;>decide +kernel)|(rw[h,h]<;>decide +kernel)|(rw[h,h,h]<;>decide +kernel)|(rw[h,h,h,h]<;>decide +kernel)))
    (k:DQ P w0 gs n fl Q ops L0 tail (i+1) rest C (fun s=>(d,v s)::K s) N) (hfl:fl.contains i=false:=by rfl) (hw:∀ s,wk ops (K s) gd=some true:=by intro _;rfl) (hd:Nat.blt d n=true:=by rfl) :
    DQ P w0 gs n fl Q ops L0 tail i (⟨some d,op,ty,pos,after,gd⟩::rest) C K N:=DQ.does hv dep k hfl hw hd
theorem DQ.autoF {v:Nums→Value} (hv:∀ s,C s→∀ w0 gs,Does P w0 gs (K s) [] op ty (v s):=by (intro s _ _ _;first
    | exact a_move|exact a_load|exact a_load1|exact a_loadF|exact a_loadF1|exact a_fieldAddr|exact a_extract|exact a_assign|exact a_pickT|exact a_pickF|exact a_indexAddr|exact a_indexSlice|exact a_indexAddrC|exact a_indexSliceC|exact a_buildT|exact a_buildA|exact a_add|exact a_sub|exact a_mul
    | exact a_eql|exact a_neq|exact a_lss|exact a_leq|exact a_gtr|exact a_geq|exact a_conv|exact a_lenS|exact a_notT|exact a_notF|exact a_notD|exact a_not|exact a_func|exact a_field|exact a_field1|exact a_nilCheck)) (dep:Dp ops i v:=by first|exact Dp.const|(intro s s' h;(try dsimp only);first|rfl|(rw[h]<;>decide +kernel)|(rw[h,h]<;>decide +kernel)|(rw[h,h,h]<;>decide +kernel)|(rw[h,h,h,h]<;>decide +kernel)))
    (k:DQ P w0 gs n fl Q ops L0 tail (i+1) rest C (fun s=>(d,v s)::K s) N) (hw:∀ s,wk ops (K s) gd=some true:=by intro _;rfl) (hd:Nat.blt d n=true:=by rfl) :
    DQ P w0 gs n fl Q ops L0 tail i (⟨some d,op,ty,pos,after,gd⟩::rest) C K N:=DQ.free hv dep k hw hd
theorem DQ.autoM {vf:Nums→Nat→Value} {t:TypeId} {cs:Nums→List Value} (hv:∀ s,C s→Makes P w0 gs (K s) L0 op ty (vf s) t (cs s):=by (intro s _;first|exact a_box|exact a_alloc)) (dep:Dp ops i vf:=by first|exact Dp.const|(intro s s' h;(try dsimp only);first|rfl|(rw[h]<;>decide +kernel)|(rw[h,h]<;>decide +kernel)|(rw[h,h,h]<;>decide +kernel)|(rw[h,h,h,h]<;>decide +kernel))) (depN:Dp ops i cs:=by first|exact Dp.const|(intro s s' h;(try dsimp only);first|rfl|(rw[h]<;>decide +kernel)|(rw[h,h]<;>decide +kernel)|(rw[h,h,h]<;>decide +kernel)|(rw[h,h,h,h]<;>decide +kernel)))
    (k:DQ P w0 gs n fl Q ops L0 tail (i+1) rest C (fun s=>(d,vf s (s i 0))::K s) (fun s=>(i,⟨s i 0,t,cs s⟩)::N s)) (hfl:fl.contains i=false:=by rfl) (hw:∀ s,wk ops (K s) gd=some true:=by intro _;rfl) (hd:Nat.blt d n=true:=by rfl) :
    DQ P w0 gs n fl Q ops L0 tail i (⟨some d,op,ty,pos,after,gd⟩::rest) C K N:=DQ.makes hv dep depN k hfl hw hd
theorem DQ.acall {f:FuncId} [Cal P f] {xs:Array Operand} {ats:Array TypeId} {as:List Value} {v:Value} (ha:∀ s,evs (K s) xs.toList=some as:=by (intro s;rfl)) (hc:Fn P f as Tr (Is v))
    (k:DQ P w0 gs n fl Q ops L0 tail (i+1) rest C (fun s=>(d,v)::K s) N) (hfl:fl.contains i=false:=by rfl) (hw:∀ s,wk ops (K s) gd=some true:=by intro _;rfl) (hd:Nat.blt d n=true:=by rfl) :
    DQ P w0 gs n fl Q ops L0 tail i (⟨some d,.call { callee:=.value (.func f),args:=xs,argTypes:=ats },ty,pos,after,gd⟩::rest) C K N :=
  DQ.call (as:=fun _=>as) (R:=fun _=>Tr) (v:=fun _=>v) (fun _ _=>hc) ha (fun _ _ _ _=>trivial) Dp.const k hfl hw hd
theorem DQ.anil {L' : Nums→List Ent} (hL:∀ s,(N s).map Prod.snd++L0=L' s:=by (intro s;(first|(simp only[List.map_cons,List.map_nil,List.cons_append,List.nil_append]<;>rfl)|rfl))) (k:∀ s,C s→WO P w0 gs n ops Q (K s) (L' s) tail):DQ P w0 gs n fl Q ops L0 tail i [] C K N :=
  DQ.nil (fun s hC=>by rw[hL s];exact k s hC)
theorem WC.adraw {K:List (Nat × Value)} {L:List Ent} {id:Nat} {l hd tl:List Oper} [Mix P] (h:Nat) (k:DQ P w0 gs n [] Q l L tl 0 hd (fun _=>True) (fun _=>K) (fun _=>[]))
    (h1:l.take h=hd:=by (simp only[List.take_succ_cons,List.take_zero]<;>rfl)) (h2:l.drop h=tl:=by (simp only[List.drop_succ_cons,List.drop_zero]<;>rfl)) (hB:checkB l [] h=true:=by decide +kernel):WC P w0 gs n (.region id l.toArray true) Q K L:=WC.draw h hB h1 h2 k
theorem WC.adrawF {K:List (Nat × Value)} {L:List Ent} {id:Nat} {l hd tl:List Oper} [Mix P] (fl:List Nat) (h:Nat) (k:DQ P w0 gs n fl (NoPanic Q) l L tl 0 hd (fun _=>True) (fun _=>K) (fun _=>[]))
    (h1:l.take h=hd:=by (simp only[List.take_succ_cons,List.take_zero]<;>rfl)) (h2:l.drop h=tl:=by (simp only[List.drop_succ_cons,List.drop_zero]<;>rfl)) (hB:checkB l fl h=true:=by decide +kernel):WC P w0 gs n (.region id l.toArray true) Q K L:=WC.drawF fl h hB h1 h2 k
end
end Sx
end Go.Proofs.YtiiacjladnljhaaGreatDoor
namespace Go.Proofs.YtiiacjladnljhaaGreatDoor
open Go Go.RowKit Go.BigFrame
namespace Sx
abbrev pt (g:Nat):Value:=.pointer (some ⟨g,0,none⟩)
section
variable {P:Program} {w0:World} {gs:List Nat} {n:Nat} {ops:List Oper} {Q:Exit→Act→World→Prop} {K:List (Nat × Value)} {L:List Ent}
theorem Kle.nil:Kle [] K:=trivial
theorem Kle.cons {t:Nat} {u v:Value} {r:List (Nat × Value)} (h:lk K t=some u) (e:u=v) (hr:Kle r K):Kle ((t,v)::r) K:=⟨⟨u,h,e⟩,hr⟩
theorem Lle.nil:Lle [] L:=trivial
theorem Lle.cons {g t:Nat} {cs cs' : List Value} {L' r:List Ent} (h:Pk L g t cs L') (e:cs=cs') (hr:Lle r L'):Lle (⟨g,t,cs'⟩::r) L:=⟨cs,L',h,e,hr⟩
theorem WC.loopI {σ:Type} {c:Code} (ok:σ→Prop) (Ks:σ→List (Nat × Value)) (Ls:σ→List Ent) (μ:σ→Nat) (s0:σ)
    (k:∀ s,ok s→WC P w0 gs n c (Exit.then (Met w0 gs n Ks Ls (fun s'=>ok s'∧μ s' < μ s)) Q) (Ks s) (Ls s)) (h0:ok s0)
    (hk:Kle (Ks s0) K:=by (repeat (first|exact Kle.nil|refine Kle.cons rfl rfl ?_)))
    (hl:Lle (Ls s0) L:=by (repeat (first|exact Lle.nil|refine Lle.cons (by repeat (first|exact Pk.here|apply Pk.there)) rfl ?_))):WC P w0 gs n (.loop c) Q K L:=fun a w h1 h2 h3 h4 =>
  wp_loop_ghost (fun m a w=>∃ s,μ s=m∧ok s∧a.defers=[]∧a.tmps.size=n∧Kn (Ks s) a∧Me w0 gs (Ls s) w) (μ s0) ⟨s0,rfl,h0,h1,h2,hk.kn h3,hl.me h4⟩ (fun m a w ⟨s,hm,hok,g1,g2,g3,g4⟩=>by
    refine wp_mono (k s hok a w g1 g2 g3 g4) (fun e a w hq=>?_)
    cases e with
    | normal=>obtain⟨s',⟨hok',hlt⟩,g⟩:=hq;exact⟨μ s',by omega,s',rfl,hok',g⟩
    | _=>exact hq)
theorem WX.metI {σ:Type} {Ks:σ→List (Nat × Value)} {Ls:σ→List Ent} {ok:σ→Prop} (s:σ)
    (hk:Kle (Ks s) K:=by (repeat (first|exact Kle.nil|refine Kle.cons rfl rfl ?_)))
    (hl:Lle (Ls s) L:=by (repeat (first|exact Lle.nil|refine Lle.cons (by repeat (first|exact Pk.here|apply Pk.there)) rfl ?_))) (hs:ok s):WX w0 gs n .normal (Exit.then (Met w0 gs n Ks Ls ok) Q) K L :=
  WX.met s hs hk hl
theorem WC.joinI {σ:Type} {x y:Code} (ok:σ→Prop) (Ks:σ→List (Nat × Value)) (Ls:σ→List Ent) (k1:WC P w0 gs n x (Exit.then (Met w0 gs n Ks Ls ok) Q) K L) (k2:∀ s,ok s→WC P w0 gs n y Q (Ks s) (Ls s)):WC P w0 gs n (.seq x y) Q K L :=
  fun a w h1 h2 h3 h4=>wp_seq (wp_mono (k1 a w h1 h2 h3 h4) (fun e a w hq=>by
    cases e with
    | normal=>obtain⟨s,hs,g1,g2,g3,g4⟩:=hq;exact k2 s hs a w g1 g2 g3 g4
    | _=>exact hq))
theorem WC.keep {c:Code} (K' : List (Nat × Value)) (L' : List Ent) (k:WC P w0 gs n c Q K' L')
    (hk:Kle K' K:=by (repeat (first|exact Kle.nil|refine Kle.cons rfl rfl ?_)))
    (hl:Lle L' L:=by (repeat (first|exact Lle.nil|refine Lle.cons (by repeat (first|exact Pk.here|apply Pk.there)) rfl ?_))):WC P w0 gs n c Q K L:=WC.less K' L' hk hl k
end
theorem Hs.seg {w0 w:World} {gs:List Nat} {L:List Ent} {g t:Nat} {cs:List Value} (h:Hs L g t cs) (hm:Mr w0 gs L w):Seg w g 0 cs:=by
  have:=(hm.ok _ h.mem).seg 0
  simpa using this
def Stable (R:World→Prop):Prop:=∀ w w',R w→Below w.heap.size w w'→R w'
theorem Stable.tr:Stable Tr:=fun _ _ _ _=>trivial
theorem Stable.seg {b off:Nat} {cs:List Value}:Stable (fun w=>Seg w b off cs):=fun _ _ h hb=>h.mod (.of_below hb []) (by simp)
section
open Kp
variable {P:Program} {w0:World} {gs:List Nat} {n:Nat} {fl:List Nat} {Q:Exit→Act→World→Prop} {ops:List Oper} {L0:List Ent}
variable {tail rest:List Oper} {i:Nat} {C:Nums→Prop} {K:Nums→List (Nat × Value)} {N:Nums→List (Nat × Ent)}
variable {d:Nat} {op:Op} {ty:TypeId} {pos:String} {after:Array Edge} {gd:Option (Nat × Bool)}
theorem DQ.acallR {f:FuncId} [Cal P f] {xs:Array Operand} {ats:Array TypeId} {as:List Value} {R:World→Prop} {v:Value} (ha:∀ s,evs (K s) xs.toList=some as:=by (intro s;rfl)) (hc:Fn P f as R (Is v)) (hR:∀ w,Mr w0 gs L0 w→R w)
    (k:DQ P w0 gs n fl Q ops L0 tail (i+1) rest C (fun s=>(d,v)::K s) N) (hfl:fl.contains i=false:=by rfl) (hw:∀ s,wk ops (K s) gd=some true:=by intro _;rfl) (hd:Nat.blt d n=true:=by rfl) :
    DQ P w0 gs n fl Q ops L0 tail i (⟨some d,.call { callee:=.value (.func f),args:=xs,argTypes:=ats },ty,pos,after,gd⟩::rest) C K N :=
  DQ.call (as:=fun _=>as) (R:=fun _=>R) (v:=fun _=>v) (fun _ _=>hc) ha (fun _ _ w hm=>hR w hm) Dp.const k hfl hw hd
end
end Sx
end Go.Proofs.YtiiacjladnljhaaGreatDoor
