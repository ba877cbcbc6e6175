/- Part 4 of the proof. -/
import Derived.Test.YtiiefkchpicncaaGreatDoorB03
import Derived.OwnWalk
import Derived.Laws.AppendOwnNone
import Derived.RangeFuncNested
import Derived.RangeFuncBound
import Derived.RangeFuncCalls
import Derived.RangeFuncBox
import Derived.RangeFuncLeaves
import Derived.RangeFuncFrom
import Derived.Shelf.Abstract
import Derived.Shelf.RegionOpen
import Derived.OwnWalkIn
import Derived.TacticsInMore
import Derived.LoopNIn
import Derived.LoopIn
set_option linter.unusedSimpArgs false
set_option linter.unusedVariables false
set_option maxHeartbeats 8000000
namespace Go.Proofs.YtiiefkchpicncaaGreatDoor
section
open Go Go.RowKit Go.BigFrame
namespace Sx
theorem i64_in {x:Int} (h1 : -9223372036854775808≤x) (h2:x≤9223372036854775807):IntKind.i64.wrap x=x:=by
 simp[IntKind.wrap,IntKind.signed,IntKind.bits];split<;>omega
theorem u64_in {x:Int} (h1:0≤x) (h2:x≤18446744073709551615):IntKind.u64.wrap x=x:=by
 simp only[IntKind.wrap,IntKind.signed,IntKind.bits];simp;omega
theorem u32_in {x:Int} (h1:0≤x) (h2:x≤4294967295):IntKind.u32.wrap x=x:=by
 simp only[IntKind.wrap,IntKind.signed,IntKind.bits];simp;omega
theorem u8_in {x:Int} (h1:0≤x) (h2:x≤255):IntKind.u8.wrap x=x:=by
 simp only[IntKind.wrap,IntKind.signed,IntKind.bits];simp;omega
theorem zo {x r:Int} (h1 : -9223372036854775808≤x) (h2:x≤9223372036854775807) (e:x=r):IntKind.i64.wrap x=r:=(i64_in h1 h2).trans e
theorem ua {x r:Int} (h1:0≤x) (h2:x≤18446744073709551615) (e:x=r):IntKind.u64.wrap x=r:=(u64_in h1 h2).trans e
theorem nK {x r:Int} (h1:0≤x) (h2:x≤4294967295) (e:x=r):IntKind.u32.wrap x=r:=(u32_in h1 h2).trans e
theorem v8 {x r:Int} (h1:0≤x) (h2:x≤255) (e:x=r):IntKind.u8.wrap x=r:=(u8_in h1 h2).trans e
section
variable {P:Program} {w0:World} {gs:List Nat} {K:List (Nat × Value)} {L:List Ent}
theorem qT {x:Operand} {ty:TypeId} {v:Value} (hx:ev K x=some v:=by rfl):Does P w0 gs K L (.move x) ty v:=vL hx
theorem tS {x:Operand} {ty:TypeId} {v:Value} (hx:ev K x=some v:=by rfl):Does P w0 gs K L (.assign x) ty v:=jK hx
theorem jw {c x y:Operand} {ty:TypeId} {v:Value} (hc:ev K c=some (.bool true):=by rfl) (hx:ev K x=some v:=by rfl):Does P w0 gs K L (.pick c x y) ty v:=eG hc hx
theorem jF {c x y:Operand} {ty:TypeId} {v:Value} (hc:ev K c=some (.bool false):=by rfl) (hy:ev K y=some v:=by rfl):Does P w0 gs K L (.pick c x y) ty v:=fF hc hy
theorem zE {t g off t' n:Nat} {cs vs:List Value} {x:Operand} {ty:TypeId} [AgT P t n] (hx:ev K x=some (.pointer (some ⟨g,off,none⟩)):=by rfl)
  (hm:Hs L g t' cs:=by (repeat (first|exact Hs.here|apply Hs.there))) (hc:cut cs off n=vs:=by (first|(simp only[cut,zk,zc,List.drop_succ_cons,List.drop_zero,List.take_succ_cons,List.take_zero,List.drop_nil,List.take_nil]<;>rfl)|rfl)) (hl:vs.length=n:=by rfl) :
  Does P w0 gs K L (.load t x) ty (.agg vs.toArray):=dQ hx hm hc hl
theorem z7 {t g off t' : Nat} {cs:List Value} {v:Value} {x:Operand} {ty:TypeId} [OnT P t] (hx:ev K x=some (.pointer (some ⟨g,off,none⟩)):=by rfl)
  (hm:Hs L g t' cs:=by (repeat (first|exact Hs.here|apply Hs.there))) (hc:cs[off]?=some v:=by rfl):Does P w0 gs K L (.load t x) ty v:=eL hx hm hc
theorem vg {s i off g o o' : Nat} {x:Operand} {ty:TypeId} [FlT P s i off] (hx:ev K x=some (.pointer (some ⟨g,o,none⟩)):=by rfl) (ho:o+off=o':=by (first|(simp only[Nat.reduceAdd,Nat.zero_add]<;>rfl)|rfl)) :
  Does P w0 gs K L (.fieldAddr s x i) ty (.pointer (some ⟨g,o',none⟩)):=qH hx ho
theorem ug {x:Operand} {ty:TypeId} {p:Addr} (hx:ev K x=some (.pointer (some p)):=by rfl):Does P w0 gs K L (.nilCheck x) ty (.pointer (some p)):=nk hx
theorem tt {t g o i len elem size o' : Nat} {k:IntKind} {x y:Operand} {ty:TypeId} [ArT P t len elem size] (hx:ev K x=some (.pointer (some ⟨g,o,none⟩)):=by rfl)
  (hy:ev K y=some (.int k (i:Int)):=by rfl) (hi:i<len:=by omega) (ho:o+i*size=o':=by (first|(simp only[Nat.reduceAdd,Nat.reduceMul,Nat.zero_add,Nat.mul_one,Nat.zero_mul,Nat.add_zero]<;>rfl)|rfl)):Does P w0 gs K L (.indexAddr t x y) ty (.pointer (some ⟨g,o',none⟩)):=vp hx hy hi ho
theorem vw {t g o i len cap elem size o' : Nat} {k:IntKind} {x y:Operand} {ty:TypeId} [SlT P t elem size] (hx:ev K x=some (.slice (some ⟨g,o,none⟩) len cap):=by rfl)
  (hy:ev K y=some (.int k (i:Int)):=by rfl) (hi:i<len:=by omega) (ho:o+i*size=o':=by (first|(simp only[Nat.reduceAdd,Nat.reduceMul,Nat.zero_add,Nat.mul_one,Nat.zero_mul,Nat.add_zero]<;>rfl)|rfl)):Does P w0 gs K L (.indexAddr t x y) ty (.pointer (some ⟨g,o',none⟩)):=zb hx hy hi ho
theorem uZ {t g o len elem size o' : Nat} {m:Int} {k:IntKind} {x y:Operand} {ty:TypeId} [ArT P t len elem size] (hx:ev K x=some (.pointer (some ⟨g,o,none⟩)):=by rfl)
  (hy:ev K y=some (.int k m):=by rfl) (h0:0≤m:=by omega) (hi:m<(len:Int):=by omega) (ho:o+m.toNat*size=o':=by (first|(simp only[Int.reduceToNat,Nat.reduceAdd,Nat.reduceMul,Nat.zero_add,Nat.mul_one,Nat.zero_mul,Nat.add_zero]<;>rfl)|rfl)):Does P w0 gs K L (.indexAddr t x y) ty (.pointer (some ⟨g,o',none⟩)) :=
 vp hx (by rw[hy,Int.toNat_of_nonneg h0]) Om ho
theorem uy {t g o len cap elem size o' : Nat} {m:Int} {k:IntKind} {x y:Operand} {ty:TypeId} [SlT P t elem size] (hx:ev K x=some (.slice (some ⟨g,o,none⟩) len cap):=by rfl)
  (hy:ev K y=some (.int k m):=by rfl) (h0:0≤m:=by omega) (hi:m<(len:Int):=by omega) (ho:o+m.toNat*size=o':=by (first|(simp only[Int.reduceToNat,Nat.reduceAdd,Nat.reduceMul,Nat.zero_add,Nat.mul_one,Nat.zero_mul,Nat.add_zero]<;>rfl)|rfl)):Does P w0 gs K L (.indexAddr t x y) ty (.pointer (some ⟨g,o',none⟩)) :=
 zb hx (by rw[hy,Int.toNat_of_nonneg h0]) Om ho
theorem uT {x:Operand} {ty:TypeId} {i:Nat} {vs:List Value} {v:Value} (hx:ev K x=some (.tuple vs.toArray):=by rfl) (hi:vs[i]?=some v:=by rfl):Does P w0 gs K L (.extract x i) ty v:=lw hx hi
theorem cf {x:Operand} {t ty:TypeId} {p:Prop} [Decidable p] (hx:ev K x=some (.bool (decide p)):=by rfl):Does P w0 gs K L (.unOp .not t x) ty (.bool (decide (¬ p))):=by
 rw[decide_not];exact ri hx
theorem d9 {x:Operand} {t ty:TypeId} (hx:ev K x=some (.bool true):=by rfl):Does P w0 gs K L (.unOp .not t x) ty (.bool false):=ri hx
theorem aL {x:Operand} {t ty:TypeId} (hx:ev K x=some (.bool false):=by rfl):Does P w0 gs K L (.unOp .not t x) ty (.bool true):=ri hx
theorem aeo {x:Operand} {t ty:TypeId} {b:Bool} (hx:ev K x=some (.bool b):=by rfl):Does P w0 gs K L (.unOp .not t x) ty (.bool !b):=ri hx
theorem mQ {fn:Go.Fn} {first captured:Array Operand} {fs cs:List Value} {ty:TypeId} (h1:evs K first.toList=some fs:=by rfl) (h2:evs K captured.toList=some cs:=by rfl) :
  Does P w0 gs K L (.makeFunc fn first captured) ty (.func fn fs.toArray cs.toArray):=zH h1 h2
theorem afk {x y:Operand} {t yt ty:TypeId} {k:IntKind} {m n r:Int} (hx:ev K x=some (.int k m):=by rfl) (hy:ev K y=some (.int k n):=by rfl)
  (hr:k.wrap (m+n)=r:=by first|exact zo Om Om (by first|(simp only[Int.reduceAdd]<;>rfl)|rfl)|exact v8 Om Om (by first|(simp only[Int.reduceAdd]<;>rfl)|rfl)|exact ua Om Om (by first|(simp only[Int.reduceAdd]<;>rfl)|rfl)|exact nK Om Om (by first|(simp only[Int.reduceAdd]<;>rfl)|rfl)|rfl) :
  Does P w0 gs K L (.binOp .add t x y yt) ty (.int k r):=ze hx hy hr
theorem aef {x y:Operand} {t yt ty:TypeId} {k:IntKind} {m n r:Int} (hx:ev K x=some (.int k m):=by rfl) (hy:ev K y=some (.int k n):=by rfl)
  (hr:k.wrap (m - n)=r:=by first|exact zo Om Om (by first|(simp only[Int.reduceSub]<;>rfl)|rfl)|exact v8 Om Om (by first|(simp only[Int.reduceSub]<;>rfl)|rfl)|exact ua Om Om (by first|(simp only[Int.reduceSub]<;>rfl)|rfl)|exact nK Om Om (by first|(simp only[Int.reduceSub]<;>rfl)|rfl)|rfl) :
  Does P w0 gs K L (.binOp .sub t x y yt) ty (.int k r):=zr hx hy hr
theorem afG {x y:Operand} {t yt ty:TypeId} {k:IntKind} {m n r:Int} (hx:ev K x=some (.int k m):=by rfl) (hy:ev K y=some (.int k n):=by rfl)
  (hr:k.wrap (m*n)=r:=by first|exact zo Om Om (by first|(simp only[Int.reduceMul]<;>rfl)|rfl)|exact v8 Om Om (by first|(simp only[Int.reduceMul]<;>rfl)|rfl)|exact ua Om Om (by first|(simp only[Int.reduceMul]<;>rfl)|rfl)|exact nK Om Om (by first|(simp only[Int.reduceMul]<;>rfl)|rfl)|rfl) :
  Does P w0 gs K L (.binOp .mul t x y yt) ty (.int k r):=vi hx hy hr
theorem aea {x y:Operand} {t yt ty:TypeId} {k:IntKind} {m n:Int} (hx:ev K x=some (.int k m):=by rfl) (hy:ev K y=some (.int k n):=by rfl):Does P w0 gs K L (.binOp .eql t x y yt) ty (.bool (decide (m=n))):=nI hx hy
theorem aeZ {x y:Operand} {t yt ty:TypeId} {k:IntKind} {m n:Int} (hx:ev K x=some (.int k m):=by rfl) (hy:ev K y=some (.int k n):=by rfl):Does P w0 gs K L (.binOp .neq t x y yt) ty (.bool (decide (m≠n))):=oL hx hy
theorem aeG {x y:Operand} {t yt ty:TypeId} {k:IntKind} {m n:Int} (hx:ev K x=some (.int k m):=by rfl) (hy:ev K y=some (.int k n):=by rfl):Does P w0 gs K L (.binOp .lss t x y yt) ty (.bool (decide (m<n))):=nz hx hy
theorem afC {x y:Operand} {t yt ty:TypeId} {k:IntKind} {m n:Int} (hx:ev K x=some (.int k m):=by rfl) (hy:ev K y=some (.int k n):=by rfl):Does P w0 gs K L (.binOp .leq t x y yt) ty (.bool (decide (m≤n))):=nj hx hy
theorem ael {x y:Operand} {t yt ty:TypeId} {k:IntKind} {m n:Int} (hx:ev K x=some (.int k m):=by rfl) (hy:ev K y=some (.int k n):=by rfl):Does P w0 gs K L (.binOp .gtr t x y yt) ty (.bool (decide (n<m))):=nc hx hy
theorem aed {x y:Operand} {t yt ty:TypeId} {k:IntKind} {m n:Int} (hx:ev K x=some (.int k m):=by rfl) (hy:ev K y=some (.int k n):=by rfl):Does P w0 gs K L (.binOp .geq t x y yt) ty (.bool (decide (n≤m))):=nx hx hy
theorem cT {s t ty:TypeId} {x:Operand} {k k' : IntKind} {n r:Int} [InT P s k'] [InT P t k] (hx:ev K x=some (.int k' n):=by rfl)
  (hr:k.wrap n=r:=by first|exact zo Om Om rfl|exact v8 Om Om rfl|exact ua Om Om rfl|exact nK Om Om rfl|rfl):Does P w0 gs K L (.convert s t x) ty (.int k r):=zB hx hr
theorem jW {x:Operand} {t ty elem size:Nat} {p:Option Addr} {n c:Nat} [SlT P t elem size] (hx:ev K x=some (.slice p n c):=by rfl) :
  Does P w0 gs K L (.call { callee:=.builtin .len,args:=#[x],argTypes:=#[t] }) ty (.int .i64 (n:Int)):=aav hx
theorem u9 {t ty:TypeId} {places:List (Nat × Nat)} {z cs:List Value} {xs:Array (Nat × Operand)} {vs:List (Nat × Value)} [BuT P t places z] (h1:evp K xs.toList=some vs:=by rfl)
  (h2:rc (nth places) z vs=some cs:=by (first|(simp only[rc,nth,cellsOf,zk,over,List.length_cons,List.length_nil,List.drop_succ_cons,List.drop_zero,List.take_succ_cons,List.take_zero,List.drop_nil,List.take_nil,List.cons_append,List.nil_append,List.append_nil,Nat.reduceAdd,Nat.beq_refl,Nat.ble_eq,Nat.reduceLeDiff,cond_true,Bool.and_self]<;>rfl)|rfl)):Does P w0 gs K L (.build t xs) ty (.agg cs.toArray):=kH h1 h2
theorem ov {t ty len elem size:Nat} {z cs:List Value} {zv:Value} {xs:Array (Nat × Operand)} {vs:List (Nat × Value)} [ArT P t len elem size] [ZeT P t zv] (hz:zv=.agg z.toArray:=by rfl) (h1:evp K xs.toList=some vs:=by rfl)
  (h2:rc (fun i=>some (i*size,size)) z vs=some cs:=by rfl):Does P w0 gs K L (.build t xs) ty (.agg cs.toArray):=zz hz h1 h2
theorem ja {s i off t n ty:Nat} {x:Operand} {cs vs:List Value} [FiT P s i off t] [AgT P t n] (hx:ev K x=some (.agg cs.toArray):=by rfl) (hc:cut cs off n=vs:=by (first|(simp only[cut,zk,zc,List.drop_succ_cons,List.drop_zero,List.take_succ_cons,List.take_zero,List.drop_nil,List.take_nil]<;>rfl)|rfl)) :
  Does P w0 gs K L (.field s x i) ty (.agg vs.toArray):=eC hx hc
theorem oQ {s i off t ty:Nat} {x:Operand} {cs:List Value} {v:Value} [FiT P s i off t] [OnT P t] (hx:ev K x=some (.agg cs.toArray):=by rfl) (hc:cs[off]?=some v:=by rfl) :
  Does P w0 gs K L (.field s x i) ty v:=kX hx hc
theorem dq {t ty:TypeId} {z:Value} {zs:List Value} [ZeT P t z] (hz:cellsOf z=zs:=by (first|(simp only[cellsOf,zk]<;>rfl)|rfl)) :
  sf P w0 gs K L (.alloc t) ty (fun g=>.pointer (some ⟨g,0,none⟩)) t zs:=jv hz
theorem agH {t ty:TypeId} {x:Operand} {v:Value} {cs:List Value} (hx:ev K x=some v:=by rfl) (hc:cellsOf v=cs:=by (first|(simp only[cellsOf,zk]<;>rfl)|rfl)) :
  sf P w0 gs K L (.box t x) ty (fun g=>.pointer (some ⟨g,0,none⟩)) t cs:=aj hx hc
theorem zG {t n g off t' : Nat} {x y:Operand} {ty:TypeId} {v:Value} {vs cs cs' : List Value} {L' : List Ent} [SzT P t n] (hx:ev K x=some (.pointer (some ⟨g,off,none⟩)):=by rfl)
  (hy:ev K y=some v:=by rfl) (hv:cellsOf v=vs:=by (first|(simp only[cellsOf,zk]<;>rfl)|rfl)) (hl:vs.length=n:=by rfl) (h1:vs.all Value.oneCell'=true:=by rfl) (hm:Hs L g t' cs:=by (repeat (first|exact Hs.here|apply Hs.there)))
  (hc:over cs off vs=cs':=by (first|(simp only[over,zk,zc,List.length_cons,List.length_nil,List.drop_succ_cons,List.drop_zero,List.take_succ_cons,List.take_zero,List.drop_nil,List.take_nil,List.cons_append,List.nil_append,List.append_nil,Nat.reduceAdd]<;>rfl)|rfl))
  (hr:Rp L g t' cs cs' L':=by (repeat (first|exact Rp.here|apply Rp.there))) (hle:Nat.ble (off+vs.length) cs.length=true:=by rfl) (ht:t'≠0:=by decide) :
  j8 P w0 gs K L (.store t x y) ty L':=eD hx hy hv hl h1 hr hc (Nat.le_of_ble_eq_true hle) ht
end
section
variable {P:Program} {w0:World} {gs:List Nat} {n:Nat} {ops:List Oper} {Q:Exit→Act→World→Prop} {K:List (Nat × Value)} {L:List Ent} {rest:List Oper}
variable {d:Nat} {op:Op} {ty:TypeId} {pos:String} {after:Array Edge} {gd:Option (Nat × Bool)}
theorem WO.acallV {f:FuncId} [Cal P f] {x:Operand} {xs:Array Operand} {ats:Array TypeId} {ak fs cs ak' : List Value} {R:World→Prop} {v:Value} (hx:ev K x=some (.func (.func f) fs.toArray cs.toArray):=by rfl) (ha:evs K xs.toList=some ak:=by rfl)
  (hh:fs++ak++cs=ak':=by rfl) (hc:Fn P f ak' R (Is v)) (hR:∀ w,Mr w0 gs L w→R w) (k:WO P w0 gs n ops Q ((d,v)::K) L rest)
  (hd:Nat.blt d n=true:=by rfl) (hw:wk ops K gd=some true:=by rfl) :
  WO P w0 gs n ops Q K L (⟨some d,.call { callee:=.value x,args:=xs,argTypes:=ats },ty,pos,after,gd⟩::rest) :=
 WO.calls hc hx ha hh hR (fun u N hu=>by
  cases hu;exact fun a w hdf hsz hk hme=>k a w hdf hsz hk (hme.sub (List.sublist_append_right _ _))) hd hw
theorem WO.acallR {f:FuncId} [Cal P f] {xs:Array Operand} {ats:Array TypeId} {ak:List Value} {R:World→Prop} {v:Value} (ha:evs K xs.toList=some ak:=by rfl) (hc:Fn P f ak R (Is v)) (hR:∀ w,Mr w0 gs L w→R w) (k:WO P w0 gs n ops Q ((d,v)::K) L rest)
  (hd:Nat.blt d n=true:=by rfl) (hw:wk ops K gd=some true:=by rfl) :
  WO P w0 gs n ops Q K L (⟨some d,.call { callee:=.value (.func f),args:=xs,argTypes:=ats },ty,pos,after,gd⟩::rest):=WO.call hc ha hR k hd hw
theorem WO.acallX {f:FuncId} [Cal P f] {x:Operand} {xs:Array Operand} {ats:Array TypeId} {ak fs cs ak' : List Value} {R:World→Prop} {vf:(Nat→Nat)→Value} {Nf:(Nat→Nat)→List Ent} {S:(Nat→Nat)→Prop} (hx:ev K x=some (.func (.func f) fs.toArray cs.toArray):=by rfl) (ha:evs K xs.toList=some ak:=by rfl)
  (hh:fs++ak++cs=ak':=by rfl) (hc:Fn P f ak' R (Ex vf Nf S)) (hR:∀ w,Mr w0 gs L w→R w) (k:∀ x,S x→WO P w0 gs n ops Q ((d,vf x)::K) (Nf x++L) rest)
  (hd:Nat.blt d n=true:=by rfl) (hw:wk ops K gd=some true:=by rfl) :
  WO P w0 gs n ops Q K L (⟨some d,.call { callee:=.value x,args:=xs,argTypes:=ats },ty,pos,after,gd⟩::rest) :=
 WO.calls hc hx ha hh hR (fun u N ⟨x,e1,e2,e3⟩=>by subst e1;subst e2;exact k x e3) hd hw
theorem zj {t b off o n:Nat} {cs vs:List Value} {x:Operand} {ty:TypeId} [AgT P t n] (hx:ev K x=some (.pointer (some ⟨b,o,none⟩)):=by rfl) (hs:Seg w0 b off cs:=by assumption) (hle:off≤o:=by omega)
  (hb:b ∉ gs:=by (first|(intro h;cases h;done)|assumption)) (hc:cut cs (o - off) n=vs:=by (first|(simp only[cut,zk,zc,Nat.sub_self,Nat.sub_zero,Nat.reduceSub,Nat.add_sub_cancel_left,List.drop_succ_cons,List.drop_zero,List.take_succ_cons,List.take_zero,List.drop_nil,List.take_nil]<;>rfl)|rfl)) (hl:vs.length=n:=by rfl) :
  Does P w0 gs K L (.load t x) ty (.agg vs.toArray):=by
 have e:o=off+(o - off):=by omega
 exact um hs (by rw[hx,← e]) hb hc hl
theorem zm {t b off o:Nat} {cs:List Value} {v:Value} {x:Operand} {ty:TypeId} [OnT P t] (hx:ev K x=some (.pointer (some ⟨b,o,none⟩)):=by rfl) (hs:Seg w0 b off cs:=by assumption) (hle:off≤o:=by omega)
  (hb:b ∉ gs:=by (first|(intro h;cases h;done)|assumption)) (hc:cs[o - off]?=some v:=by (first|rfl|assumption)):Does P w0 gs K L (.load t x) ty v:=by
 have e:o=off+(o - off):=by omega
 exact vP hs (by rw[hx,← e]) hb hc
end
section
variable {P:Program} {w0:World} {gs:List Nat} {n:Nat} {ops:List Oper} {Q:Exit→Act→World→Prop} {K:List (Nat × Value)} {L:List Ent} {rest:List Oper}
variable {d:Nat} {op:Op} {ty:TypeId} {pos:String} {after:Array Edge} {gd:Option (Nat × Bool)}
theorem WO.auto {v:Value} (h:Does P w0 gs K L op ty v:=by first
  | exact qT|exact zE|exact z7|exact zj|exact zm|exact vg|exact uT|exact tS|exact jw|exact jF|exact tt|exact vw|exact uZ|exact uy|exact u9|exact ov|exact afk|exact aef|exact afG
  | exact aea|exact aeZ|exact aeG|exact afC|exact ael|exact aed|exact cT|exact jW|exact d9|exact aL|exact cf|exact aeo|exact mQ|exact ja|exact oQ|exact ug)
  (k:WO P w0 gs n ops Q ((d,v)::K) L rest) (hd:Nat.blt d n=true:=by rfl) (hw:wk ops K gd=some true:=by rfl):WO P w0 gs n ops Q K L (⟨some d,op,ty,pos,after,gd⟩::rest):=WO.does h k hd hw
theorem WO.autoM {v:Nat→Value} {t:TypeId} {cs:List Value} (h:sf P w0 gs K L op ty v t cs:=by first|exact agH|exact dq)
  (k:∀ g,WO P w0 gs n ops Q ((d,v g)::K) (⟨g,t,cs⟩::L) rest) (hd:Nat.blt d n=true:=by rfl) (hw:wk ops K gd=some true:=by rfl):WO P w0 gs n ops Q K L (⟨some d,op,ty,pos,after,gd⟩::rest):=WO.makes h k hd hw
theorem WO.autoS {L' : List Ent} (h:j8 P w0 gs K L op ty L':=by exact zG) (k:WO P w0 gs n ops Q K L' rest) (hw:wk ops K gd=some true:=by rfl):WO P w0 gs n ops Q K L (⟨none,op,ty,pos,after,gd⟩::rest):=WO.stores h k hw
theorem WO.acall {f:FuncId} [Cal P f] {xs:Array Operand} {ats:Array TypeId} {ak:List Value} {v:Value} (ha:evs K xs.toList=some ak:=by rfl) (hc:Fn P f ak Tr (Is v)) (k:WO P w0 gs n ops Q ((d,v)::K) L rest)
  (hd:Nat.blt d n=true:=by rfl) (hw:wk ops K gd=some true:=by rfl) :
  WO P w0 gs n ops Q K L (⟨some d,.call { callee:=.value (.func f),args:=xs,argTypes:=ats },ty,pos,after,gd⟩::rest):=WO.call hc ha (fun _ _=>trivial) k hd hw
theorem WC.dT {c:Operand} {x y:Code} {p:Prop} [Decidable p] (hc:ev K c=some (.bool (decide p))) (hp:p) (k:WC P w0 gs n x Q K L):WC P w0 gs n (.cond c x y) Q K L:=WC.condT (by rw[hc,decide_eq_true hp]) k
theorem WC.dF {c:Operand} {x y:Code} {p:Prop} [Decidable p] (hc:ev K c=some (.bool (decide p))) (hp:¬ p) (k:WC P w0 gs n y Q K L):WC P w0 gs n (.cond c x y) Q K L:=WC.condF (by rw[hc,decide_eq_false hp]) k
theorem WO.eqv {t:Nat} {u v:Value} (h:u=v) (k:WO P w0 gs n ops Q ((t,v)::K) L rest):WO P w0 gs n ops Q ((t,u)::K) L rest:=h ▸ k
theorem ub {p t g off t' n:Nat} {cs vs:List Value} [AgT P t n] (hx:lk K p=some (.pointer (some ⟨g,off,none⟩)):=by rfl) (hm:Hs L g t' cs:=by (repeat (first|exact Hs.here|apply Hs.there)))
  (hc:cut cs off n=vs:=by (first|(simp only[cut,zk,zc,List.drop_succ_cons,List.drop_zero,List.take_succ_cons,List.take_zero,List.drop_nil,List.take_nil]<;>rfl)|rfl)) (hl:vs.length=n:=by rfl):Rv P w0 gs K L (.cell p t) (.agg vs.toArray):=yN hx hm hc hl
theorem pj {p t g off t' : Nat} {cs:List Value} {v:Value} [OnT P t] (hx:lk K p=some (.pointer (some ⟨g,off,none⟩)):=by rfl) (hm:Hs L g t' cs:=by (repeat (first|exact Hs.here|apply Hs.there))) (hc:cs[off]?=some v:=by rfl):Rv P w0 gs K L (.cell p t) v:=rq hx hm hc
theorem WX.aret1 {fn:Func} {post:Value→List Ent→Prop} {v:Value} {r:ResultVar} (hfn:fn.results=#[r]:=by rfl) (hr:Rv P w0 [] K L r v:=by first|exact zX rfl|exact ub|exact pj) (hp:post v []) :
  WX w0 [] n .ret (bodyPost P fn (uW w0 post)) K L:=WX.ret1 hfn hr [] trivial hp
theorem WX.aret2 {fn:Func} {post:Value→List Ent→Prop} {v1 v2:Value} {r1 r2:ResultVar} (hfn:fn.results=#[r1,r2]:=by rfl) (hr1:Rv P w0 [] K L r1 v1:=by first|exact zX rfl|exact ub|exact pj) (hr2:Rv P w0 [] K L r2 v2:=by first|exact zX rfl|exact ub|exact pj) (hp:post (.tuple #[v1,v2]) []) :
  WX w0 [] n .ret (bodyPost P fn (uW w0 post)) K L:=WX.ret2 hfn hr1 hr2 [] trivial hp
theorem WX.aret3 {fn:Func} {post:Value→List Ent→Prop} {v1 v2 v3:Value} {r1 r2 r3:ResultVar} (hfn:fn.results=#[r1,r2,r3]:=by rfl) (hr1:Rv P w0 [] K L r1 v1:=by first|exact zX rfl|exact ub|exact pj) (hr2:Rv P w0 [] K L r2 v2:=by first|exact zX rfl|exact ub|exact pj) (hr3:Rv P w0 [] K L r3 v3:=by first|exact zX rfl|exact ub|exact pj) (hp:post (.tuple #[v1,v2,v3]) []) :
  WX w0 [] n .ret (bodyPost P fn (uW w0 post)) K L:=WX.ret3 hfn hr1 hr2 hr3 [] trivial hp
end
section
open Kp
variable {P:Program} {w0:World} {gs:List Nat} {n:Nat} {fl:List Nat} {Q:Exit→Act→World→Prop} {ops:List Oper} {L0:List Ent}
variable {tail rest:List Oper} {i:Nat} {C:zW→Prop} {K:zW→List (Nat × Value)} {N:zW→List (Nat × Ent)}
variable {d:Nat} {op:Op} {ty:TypeId} {pos:String} {after:Array Edge} {gd:Option (Nat × Bool)}
theorem DQ.auto {v:zW→Value} (hv:∀ s,C s→Does P w0 gs (K s) L0 op ty (v s):=by (intro s _;first
  | exact qT|exact zE|exact z7|exact zj|exact zm|exact vg|exact uT|exact tS|exact jw|exact jF|exact tt|exact vw|exact uZ|exact uy|exact u9|exact ov|exact afk|exact aef|exact afG
  | exact aea|exact aeZ|exact aeG|exact afC|exact ael|exact aed|exact cT|exact jW|exact d9|exact aL|exact cf|exact aeo|exact mQ|exact ja|exact oQ|exact ug)) (dep:Dp ops i v:=by first|exact Dp.const|(intro s s' h;(try dsimp only);first|rfl|(rw[h]<;>decide +kernel)|(rw[h,h]<;>decide +kernel)|(rw[h,h,h]<;>decide +kernel)|(rw[h,h,h,h]<;>decide +kernel)))
  (k:DQ P w0 gs n fl Q ops L0 tail (i+1) rest C (fun s=>(d,v s)::K s) N) (hfl:fl.contains i=false:=by rfl) (hw:∀ s,wk ops (K s) gd=some true:=by intro _;rfl) (hd:Nat.blt d n=true:=by rfl) :
  DQ P w0 gs n fl Q ops L0 tail i (⟨some d,op,ty,pos,after,gd⟩::rest) C K N:=DQ.does hv dep k hfl hw hd
theorem DQ.autoF {v:zW→Value} (hv:∀ s,C s→∀ w0 gs,Does P w0 gs (K s) [] op ty (v s):=by (intro s _ _ _;first
  | exact qT|exact zE|exact z7|exact zj|exact zm|exact vg|exact uT|exact tS|exact jw|exact jF|exact tt|exact vw|exact uZ|exact uy|exact u9|exact ov|exact afk|exact aef|exact afG
  | exact aea|exact aeZ|exact aeG|exact afC|exact ael|exact aed|exact cT|exact jW|exact d9|exact aL|exact cf|exact aeo|exact mQ|exact ja|exact oQ|exact ug)) (dep:Dp ops i v:=by first|exact Dp.const|(intro s s' h;(try dsimp only);first|rfl|(rw[h]<;>decide +kernel)|(rw[h,h]<;>decide +kernel)|(rw[h,h,h]<;>decide +kernel)|(rw[h,h,h,h]<;>decide +kernel)))
  (k:DQ P w0 gs n fl Q ops L0 tail (i+1) rest C (fun s=>(d,v s)::K s) N) (hw:∀ s,wk ops (K s) gd=some true:=by intro _;rfl) (hd:Nat.blt d n=true:=by rfl) :
  DQ P w0 gs n fl Q ops L0 tail i (⟨some d,op,ty,pos,after,gd⟩::rest) C K N:=DQ.free hv dep k hw hd
theorem DQ.autoM {vf:zW→Nat→Value} {t:TypeId} {cs:zW→List Value} (hv:∀ s,C s→sf P w0 gs (K s) L0 op ty (vf s) t (cs s):=by (intro s _;first|exact agH|exact dq)) (dep:Dp ops i vf:=by first|exact Dp.const|(intro s s' h;(try dsimp only);first|rfl|(rw[h]<;>decide +kernel)|(rw[h,h]<;>decide +kernel)|(rw[h,h,h]<;>decide +kernel)|(rw[h,h,h,h]<;>decide +kernel))) (depN:Dp ops i cs:=by first|exact Dp.const|(intro s s' h;(try dsimp only);first|rfl|(rw[h]<;>decide +kernel)|(rw[h,h]<;>decide +kernel)|(rw[h,h,h]<;>decide +kernel)|(rw[h,h,h,h]<;>decide +kernel)))
  (k:DQ P w0 gs n fl Q ops L0 tail (i+1) rest C (fun s=>(d,vf s (s i 0))::K s) (fun s=>(i,⟨s i 0,t,cs s⟩)::N s)) (hfl:fl.contains i=false:=by rfl) (hw:∀ s,wk ops (K s) gd=some true:=by intro _;rfl) (hd:Nat.blt d n=true:=by rfl) :
  DQ P w0 gs n fl Q ops L0 tail i (⟨some d,op,ty,pos,after,gd⟩::rest) C K N:=DQ.makes hv dep depN k hfl hw hd
theorem DQ.acall {f:FuncId} [Cal P f] {xs:Array Operand} {ats:Array TypeId} {ak:List Value} {v:Value} (ha:∀ s,evs (K s) xs.toList=some ak:=by (intro s;rfl)) (hc:Fn P f ak Tr (Is v))
  (k:DQ P w0 gs n fl Q ops L0 tail (i+1) rest C (fun s=>(d,v)::K s) N) (hfl:fl.contains i=false:=by rfl) (hw:∀ s,wk ops (K s) gd=some true:=by intro _;rfl) (hd:Nat.blt d n=true:=by rfl) :
  DQ P w0 gs n fl Q ops L0 tail i (⟨some d,.call { callee:=.value (.func f),args:=xs,argTypes:=ats },ty,pos,after,gd⟩::rest) C K N :=
 DQ.call (ak:=fun _=>ak) (R:=fun _=>Tr) (v:=fun _=>v) (fun _ _=>hc) ha (fun _ _ _ _=>trivial) Dp.const k hfl hw hd
theorem DQ.anil {L' : zW→List Ent} (hL:∀ s,(N s).map Prod.snd++L0=L' s:=by (intro s;(first|(simp only[List.map_cons,List.map_nil,List.cons_append,List.nil_append]<;>rfl)|rfl))) (k:∀ s,C s→WO P w0 gs n ops Q (K s) (L' s) tail):DQ P w0 gs n fl Q ops L0 tail i [] C K N :=
 DQ.nil (fun s hC=>by rw[hL s];exact k s hC)
theorem WC.adraw {K:List (Nat × Value)} {L:List Ent} {id:Nat} {l hd tl:List Oper} [Mix P] (h:Nat) (k:DQ P w0 gs n [] Q l L tl 0 hd (fun _=>True) (fun _=>K) (fun _=>[]))
  (h1:l.take h=hd:=by (simp only[List.take_succ_cons,List.take_zero]<;>rfl)) (h2:l.drop h=tl:=by (simp only[List.drop_succ_cons,List.drop_zero]<;>rfl)) (hB:yH l [] h=true:=by decide +kernel):WC P w0 gs n (.region id l.toArray true) Q K L:=WC.draw h hB h1 h2 k
theorem WC.adrawF {K:List (Nat × Value)} {L:List Ent} {id:Nat} {l hd tl:List Oper} [Mix P] (fl:List Nat) (h:Nat) (k:DQ P w0 gs n fl (NoPanic Q) l L tl 0 hd (fun _=>True) (fun _=>K) (fun _=>[]))
  (h1:l.take h=hd:=by (simp only[List.take_succ_cons,List.take_zero]<;>rfl)) (h2:l.drop h=tl:=by (simp only[List.drop_succ_cons,List.drop_zero]<;>rfl)) (hB:yH l fl h=true:=by decide +kernel):WC P w0 gs n (.region id l.toArray true) Q K L:=WC.drawF fl h hB h1 h2 k
end
abbrev pt (g:Nat):Value:=.pointer (some ⟨g,0,none⟩)
section
variable {P:Program} {w0:World} {gs:List Nat} {n:Nat} {ops:List Oper} {Q:Exit→Act→World→Prop} {K:List (Nat × Value)} {L:List Ent}
theorem Kle.nil:Kle [] K:=trivial
theorem Kle.cons {t:Nat} {u v:Value} {r:List (Nat × Value)} (h:lk K t=some u) (e:u=v) (hr:Kle r K):Kle ((t,v)::r) K:=⟨⟨u,h,e⟩,hr⟩
theorem Lle.nil:Lle [] L:=trivial
theorem Lle.cons {g t:Nat} {cs cs' : List Value} {L' r:List Ent} (h:Pk L g t cs L') (e:cs=cs') (hr:Lle r L'):Lle (⟨g,t,cs'⟩::r) L:=⟨cs,L',h,e,hr⟩
theorem Kle.a {K A:List (Nat × Value)} (h:Kle A K:=by repeat (first|exact Kle.nil|refine Kle.cons rfl rfl ?_)):Kle A K:=h
theorem Lle.c {g t:Nat} {cs cs' : List Value} {L' r:List Ent} (hr:Lle r L') (h:Pk L g t cs L':=by repeat (first|exact Pk.here|apply Pk.there)) (e:cs=cs':=by rfl):Lle (⟨g,t,cs'⟩::r) L:=Lle.cons h e hr
theorem WC.loopI {σ:Type} {c:Code} (ok:σ→Prop) (Ks:σ→List (Nat × Value)) (Ls:σ→List Ent) (μ:σ→Nat) (s0:σ)
  (k:∀ s,ok s→WC P w0 gs n c (Exit.then (Met w0 gs n Ks Ls (fun s'=>ok s'∧μ s' < μ s)) Q) (Ks s) (Ls s)) (h0:ok s0)
  (hk:Kle (Ks s0) K:=by (repeat (first|exact Kle.nil|refine Kle.cons rfl rfl ?_)))
  (hl:Lle (Ls s0) L:=by (repeat (first|exact Lle.nil|refine Lle.c ?_))):WC P w0 gs n (.loop c) Q K L:=fun a w h1 h2 h3 h4 =>
 wp_loop_ghost (fun m a w=>∃ s,μ s=m∧ok s∧a.defers=[]∧a.tmps.size=n∧Kn (Ks s) a∧Me w0 gs (Ls s) w) (μ s0) ⟨s0,rfl,h0,h1,h2,hk.kn h3,hl.me h4⟩ (fun m a w ⟨s,hm,hok,g1,g2,g3,g4⟩=>by
  refine wp_mono (k s hok a w g1 g2 g3 g4) (fun e a w hq=>?_);cases e with
  | normal=>obtain⟨s',⟨hok',hlt⟩,g⟩:=hq;exact⟨μ s',by omega,s',rfl,hok',g⟩
  | _=>exact hq)
theorem WX.metI {σ:Type} {Ks:σ→List (Nat × Value)} {Ls:σ→List Ent} {ok:σ→Prop} (s:σ)
  (hk:Kle (Ks s) K:=by (repeat (first|exact Kle.nil|refine Kle.cons rfl rfl ?_)))
  (hl:Lle (Ls s) L:=by (repeat (first|exact Lle.nil|refine Lle.c ?_))) (hs:ok s):WX w0 gs n .normal (Exit.then (Met w0 gs n Ks Ls ok) Q) K L :=
 WX.met s hs hk hl
theorem WC.joinI {σ:Type} {x y:Code} (ok:σ→Prop) (Ks:σ→List (Nat × Value)) (Ls:σ→List Ent) (k1:WC P w0 gs n x (Exit.then (Met w0 gs n Ks Ls ok) Q) K L) (k2:∀ s,ok s→WC P w0 gs n y Q (Ks s) (Ls s)):WC P w0 gs n (.seq x y) Q K L :=
 fun a w h1 h2 h3 h4=>wp_seq (wp_mono (k1 a w h1 h2 h3 h4) (fun e a w hq=>by
  cases e with
  | normal=>obtain⟨s,hs,g1,g2,g3,g4⟩:=hq;exact k2 s hs a w g1 g2 g3 g4
  | _=>exact hq))
end
theorem Hs.seg {w0 w:World} {gs:List Nat} {L:List Ent} {g t:Nat} {cs:List Value} (h:Hs L g t cs) (hm:Mr w0 gs L w):Seg w g 0 cs:=by
 have:=(hm.ok _ h.mem).seg 0;simpa using this
theorem Hs.sg {w0 w:World} {gs:List Nat} {L:List Ent} {g t:Nat} {cs:List Value} (hm:Mr w0 gs L w) (h:Hs L g t cs:=by repeat (first|exact Hs.here|apply Hs.there)):Seg w g 0 cs:=h.seg hm
def zP (R:World→Prop):Prop:=∀ w w',R w→Below w.heap.size w w'→R w'
theorem zP.tr:zP Tr:=fun _ _ _ _=>trivial
theorem zP.seg {b off:Nat} {cs:List Value}:zP (fun w=>Seg w b off cs):=fun _ _ h hb=>h.mod (.of_below hb []) (by simp)
section
open Kp
variable {P:Program} {w0:World} {gs:List Nat} {n:Nat} {fl:List Nat} {Q:Exit→Act→World→Prop} {ops:List Oper} {L0:List Ent}
variable {tail rest:List Oper} {i:Nat} {C:zW→Prop} {K:zW→List (Nat × Value)} {N:zW→List (Nat × Ent)}
variable {d:Nat} {op:Op} {ty:TypeId} {pos:String} {after:Array Edge} {gd:Option (Nat × Bool)}
theorem DQ.acallR {f:FuncId} [Cal P f] {xs:Array Operand} {ats:Array TypeId} {ak:List Value} {R:World→Prop} {v:Value} (ha:∀ s,evs (K s) xs.toList=some ak:=by (intro s;rfl)) (hc:Fn P f ak R (Is v)) (hR:∀ w,Mr w0 gs L0 w→R w)
  (k:DQ P w0 gs n fl Q ops L0 tail (i+1) rest C (fun s=>(d,v)::K s) N) (hfl:fl.contains i=false:=by rfl) (hw:∀ s,wk ops (K s) gd=some true:=by intro _;rfl) (hd:Nat.blt d n=true:=by rfl) :
  DQ P w0 gs n fl Q ops L0 tail i (⟨some d,.call { callee:=.value (.func f),args:=xs,argTypes:=ats },ty,pos,after,gd⟩::rest) C K N :=
 DQ.call (ak:=fun _=>ak) (R:=fun _=>R) (v:=fun _=>v) (fun _ _=>hc) ha (fun _ _ w hm=>hR w hm) Dp.const k hfl hw hd
end
end Sx
end
section
open Go Go.RowKit Go.BigFrame
namespace Sx
open Kp
section
variable {P:Program} {w0:World} {gs:List Nat} {n:Nat} {ops:List Oper} {Q:Exit→Act→World→Prop} {K:List (Nat × Value)} {L:List Ent} {rest:List Oper} {d:Nat}
theorem WO.decT {p:Prop} {ip:Decidable p} (h:p:=by first|assumption|omega) (k:WO P w0 gs n ops Q ((d,.bool true)::K) L rest):WO P w0 gs n ops Q ((d,.bool (@decide p ip))::K) L rest:=by
 rw[decide_eq_true h];exact k
theorem WO.decF {p:Prop} {ip:Decidable p} (h:¬ p:=by first|assumption|omega) (k:WO P w0 gs n ops Q ((d,.bool false)::K) L rest):WO P w0 gs n ops Q ((d,.bool (@decide p ip))::K) L rest:=by
 rw[decide_eq_false h];exact k
end
section
variable {P:Program} {w0:World} {gs:List Nat} {n:Nat} {fl:List Nat} {hl:List (Nat × List Ent)} {Q:Exit→Act→World→Prop} {ops:List Oper} {L0:List Ent}
variable {tail rest:List Oper} {nh i:Nat} {C:zW→Prop} {K:zW→List (Nat × Value)} {N:zW→List (Nat × Ent)} {d:Nat}
theorem DQ.decT {p:Prop} {ip:Decidable p} (h:p:=by first|assumption|omega) (k:DQ P w0 gs n fl Q ops L0 tail i rest C (fun s=>(d,.bool true)::K s) N):DQ P w0 gs n fl Q ops L0 tail i rest C (fun s=>(d,.bool (@decide p ip))::K s) N:=by
 rw[decide_eq_true h];exact k
theorem DQ.decF {p:Prop} {ip:Decidable p} (h:¬ p:=by first|assumption|omega) (k:DQ P w0 gs n fl Q ops L0 tail i rest C (fun s=>(d,.bool false)::K s) N):DQ P w0 gs n fl Q ops L0 tail i rest C (fun s=>(d,.bool (@decide p ip))::K s) N:=by
 rw[decide_eq_false h];exact k
end
section
variable {p q:Prop}
theorem Ta (k:p) (h:p→q:=by first|exact WO.nil|exact fun k=>WO.skip k|exact WX.seq|exact WC.seq|exact WC.region|exact fun k=>WO.autoS (k:=k)):q:=h k
theorem Td (k:p) (h:p→q:=by first|exact WO.nil|exact fun k=>WO.decT (k:=k)|exact fun k=>WO.decF (k:=k)|exact fun k=>WO.skip k|exact WX.seq|exact WC.seq|exact WC.region|exact fun k=>WO.autoS (k:=k)):q:=h k
theorem Te (k:p) (h:p→q:=by first|exact WO.nil|exact fun k=>WO.skip k|exact WC.region|exact fun k=>WO.autoS (k:=k)):q:=h k
theorem Tm (k:p) (h:p→q:=by exact fun k=>WO.autoM (k:=k)):q:=h k
theorem Tb (k:p) (h:p→q:=by first|exact fun k=>WO.auto (k:=k)|exact WC.ret|exact WC.skip|exact WX.then_ret|exact WX.noPanic|exact WX.blk_normal|exact WX.blk_ret|exact WX.then_exit|exact WX.blk_exit|exact WX.blk_pass rfl|exact WC.exit|exact WC.block|exact WC.scope|exact WX.scp_normal|exact WX.scp_ret|exact WX.scp_exit|exact WC.label|exact WC.condT rfl|exact WC.condF rfl):q:=h k
theorem Tz (h:q:=by first|exact WX.aret1 (hp:=rfl)|exact WX.aret2 (hp:=rfl)|exact WX.aret3 (hp:=rfl)):q:=h
theorem Da (k:p) (h:p→q:=by first|exact fun k=>DQ.skip k|exact fun k=>DQ.autoM (k:=k)):q:=h k
end
end Sx
end
section
open Go Go.RowKit Go.BigFrame
namespace Sx
class ElT (P:Program) (e:TypeId) (bytes:outParam Nat) (z:outParam (List Value)):Prop where
 info:∃ i,P.info? e=some i∧i.bytes=bytes∧i.size=z.length∧∃ v,i.zero=some v∧v.cells=z.toArray
theorem ElT.bytes {P:Program} {e b:Nat} {z:List Value} [h:ElT P e b z] (w:World):∃ i,(typeInfo e).run P w=.ok i w∧i.bytes=b∧i.size=z.length∧∃ v,i.zero=some v∧v.cells=z.toArray:=by
 obtain⟨i,h1,h2⟩:=h.info;exact⟨i,by simp[typeInfo,h1],h2⟩
theorem ElT.zero {P:Program} {e b:Nat} {z:List Value} [h:ElT P e b z] (w:World):∃ v,(zeroValue e).run P w=.ok v w∧v.cells=z.toArray:=by
 obtain⟨i,h1,h2,h3,v,h4,h5⟩:=h.info;exact⟨v,by simp[zeroValue,typeInfo,h1,h4],h5⟩
def mkz (n:Nat) (z:List Value):List Value:=(List.replicate n z).flatten
theorem zV (n:Nat) (z:List Value):(mkz n z).length=n*z.length:=by
 unfold mkz;simp
theorem afg {z:List Value} {n i:Nat} (h:i<n*z.length):(mkz n z)[i]?=z[i%z.length]?:=by
 induction n generalizing i with
 | zero=>simp at h
 | succ n ih =>
  unfold mkz;rw[List.replicate_succ,List.flatten_cons]
  by_cases hi:i<z.length
  ·rw[List.getElem?_append_left hi,Nat.mod_eq_of_lt hi]
  ·rw[List.getElem?_append_right Om];have:=ih (i:=i - z.length) (by rw[Nat.add_mul,Nat.one_mul] at h;omega);unfold mkz at this;rw[this,show i%z.length=(i - z.length)%z.length from Nat.mod_eq_sub_mod Om]
theorem gJ (n:Nat) (z:List Value):((Array.range (n*z.length)).map (fun i=>z.toArray[i%z.toArray.size]!))=(mkz n z).toArray:=by
 apply Array.ext';apply List.ext_getElem?;intro i;simp only[Array.toList_map,Array.toList_range,List.getElem?_map]
 by_cases h:i<n*z.length
 ·rw[afg h,List.getElem?_range h];have hz:0<z.length:=by
   rcases Nat.eq_zero_or_pos z.length with h0|h0
   ·rw[h0] at h;simp at h
   ·exact h0
  have hm:=Nat.mod_lt i hz;simp[hm]
 ·have h1:(mkz n z)[i]?=none:=List.getElem?_eq_none (by rw[zV];omega);rw[h1];have:(List.range (n*z.length))[i]?=none:=List.getElem?_eq_none (by simp;omega);rw[this];rfl
theorem pT (f:Nat→Value):(Array.range 0).map f=#[]:=by apply Array.ext';simp
theorem rO (n:Nat) (v:Value):mkz n [v]=List.replicate n v:=by
 unfold mkz
 induction n with
 | zero=>rfl
 | succ n ih=>rw[List.replicate_succ,List.flatten_cons,ih,List.replicate_succ];rfl
section
variable {P:Program} {w0:World} {gs:List Nat} {K:List (Nat × Value)} {L:List Ent}
theorem zR {t e size b ty:Nat} {z:List Value} {x y:Operand} {k k' : IntKind} {l c:Nat} [SlT P t e size] [ElT P e b z] (hx:ev K x=some (.int k (l:Int))) (hy:ev K y=some (.int k' (c:Int))) (hlc:l≤c) (hb:b*c≤281474976710656) (hc:c≤9223372036854775807) :
  sf P w0 gs K L (.makeSlice t x y) ty (fun g=>.slice (some ⟨g,0,none⟩) l c) e (mkz c z):=by
 intro a w hk _ o ho _;have hu:∀ w,(underlying t).run P w=.ok (.slice e) w:=fun w=>by simp[underlying,SlT.under (P:=P) (t:=t)]
 obtain⟨i,h1,h2,h3,v,h4,h5⟩:=ElT.bytes (P:=P) (e:=e) w;obtain⟨v',h6,h7⟩:=ElT.zero (P:=P) (e:=e) w;have hsz:(sizeOf e).run P w=.ok z.length w:=by simp[sizeOf,h1,h3]
 have wl:IntKind.i64.wrap (l:Int)=l:=i64_in Om Om;have wc:IntKind.i64.wrap (c:Int)=c:=i64_in Om Om;have hbc:((b:Int)*(c:Int))≤281474976710656:=by have h:=Int.ofNat_le.2 hb;rw[Int.natCast_mul] at h;exact h
 have e1:¬ ((c:Int)<0):=by omega
 have e2:¬ (((b:Nat):Int)*(c:Int) > 2 ^ 48):=by
  have h48:(2:Int) ^ 48=281474976710656:=rfl;rw[h48];exact Int.not_lt.2 hbc
 have e3:¬ ((l:Int)<0):=by omega
 have e4:¬ ((l:Int) > (c:Int)):=by omega
 simp only[execOp,ho,hk.eval hx,hk.eval hy,Instr.makeSlice,Sem.run_bind,hu,Result.andThen_ok,asInt,asIntOf,Sem.run_pure,h1,h2,wl,wc];simp only[e1,e2,e3,e4,decide_false,Bool.or_self,Bool.false_eq_true,if_false,run_askRoom,Result.andThen_ok,hsz,Sem.run_bind,Int.toNat_natCast]
 by_cases h0:c*z.length=0
 ·have:mkz c z=[]:=List.eq_nil_of_length_eq_zero (by rw[zV];exact h0);rw[this];simp[h0,newRow,pT]
 ·rw[if_neg h0];simp only[Sem.run_bind,h6,Result.andThen_ok,Sem.run_pure,h7,gJ,newRow,run_newObj];rfl
theorem zh {t e size b ty len:Nat} {z cs:List Value} {xs:Array (Nat × Operand)} {vs:List (Nat × Value)} [SlT P t e size] [ElT P e b z] (h1:evp K xs.toList=some vs) (hl:len*z.length≤16777216) (h2:rc (fun i=>some (i*z.length,z.length)) (mkz len z) vs=some cs) :
  sf P w0 gs K L (.buildSlice t len xs) ty (fun g=>.slice (some ⟨g,0,none⟩) len len) e cs:=by
 intro a w hk _ o ho _;have hu:∀ w,(underlying t).run P w=.ok (.slice e) w:=fun w=>by simp[underlying,SlT.under (P:=P) (t:=t)]
 obtain⟨i,g1,g2,g3,v,g4,g5⟩:=ElT.bytes (P:=P) (e:=e) w;obtain⟨v',g6,g7⟩:=ElT.zero (P:=P) (e:=e) w;have hsz:(sizeOf e).run P w=.ok z.length w:=by simp[sizeOf,g1,g3]
 have ee:=hk.evp h1;have e' : (xs.map fun (i,x)=>(i,a.eval x)).toList=vs:=by simpa using ee
 have hf:=nJ (place':=fun i=>some (i*z.length,z.length)) (fun i=>rfl) vs (mkz len z) cs h2;have e3:¬ (len*z.length > 2 ^ 24):=by omega
 simp only[execOp,ho,Instr.buildSlice,Sem.run_bind,hu,Result.andThen_ok,hsz];rw[if_neg e3]
 by_cases h0:len*z.length=0
 ·have hm:mkz len z=[]:=List.eq_nil_of_length_eq_zero (by rw[zV];exact h0);rw[hm] at hf;rw[if_pos h0];simp only[Sem.run_bind,Sem.run_pure,Result.andThen_ok,h0];rw[pT,e',hf];rfl
 ·rw[if_neg h0];simp only[Sem.run_bind,g6,Result.andThen_ok,Sem.run_pure,g7,gJ,e',hf,newRow,run_newObj];rfl
end
def Rds (w0:World) (gs:List Nat) (L:List Ent) (v:Value) (n:Nat) (xs:List Value):Prop :=
 ∃ p c,v=.slice p n c∧((p=none∧n=0∧xs=[])∨∃ b o,p=some ⟨b,o,none⟩∧∀ w,Mr w0 gs L w→∀ (i:Nat) x,xs[i]?=some x→w.cell? ⟨b,o+i,none⟩=some x)
section
variable {P:Program} {w0:World} {gs:List Nat} {K:List (Nat × Value)} {L:List Ent}
theorem Rds.nil {c:Nat}:Rds w0 gs L (.slice none 0 c) 0 []:=⟨none,c,rfl,.inl ⟨rfl,rfl,rfl⟩⟩
theorem Rds.own {g o t n c m:Nat} {cs xs:List Value} (hm:Hs L g t cs) (hc:cut cs o m=xs):Rds w0 gs L (.slice (some ⟨g,o,none⟩) n c) n xs :=
 ⟨_,c,rfl,.inr ⟨g,o,rfl,fun w hme i x hx=>by rw[(hme.ok _ hm.mem).cell];exact yY hc hx⟩⟩
theorem Rds.seg {b off o n c m:Nat} {cs xs:List Value} (hs:Seg w0 b off cs) (hle:off≤o) (hb:b ∉ gs) (hc:cut cs (o - off) m=xs):Rds w0 gs L (.slice (some ⟨b,o,none⟩) n c) n xs :=
 ⟨_,c,rfl,.inr ⟨b,o,rfl,fun w hme i x hx=>by
  have:=hs.mod hme.mod hb _ x (yY hc hx);rwa [show off+(o - off+i)=o+i by omega] at this⟩⟩
theorem Rds.first {v:Value} {n size:Nat} {xs:List Value} (h:Rds w0 gs L v n xs) (hl:xs.length=n*size) {w:World} (hm:Mr w0 gs L w):(Builtin.firstCells size n v).run P w=.ok xs.toArray w:=by
 obtain⟨p,c,rfl,⟨rfl,rfl,rfl⟩|⟨b,o,rfl,hr⟩⟩:=h
 ·rfl
 ·show (loadCells ⟨b,o,none⟩ (n*size)).run P w=_;rw[← hl];exact run_loadCells_list (P:=P) w ⟨b,o,none⟩ xs (fun j v hj=>by rw[v7];exact hr w hm j v hj)
theorem Rds.take {v:Value} {n m size:Nat} {xs:List Value} (h:Rds w0 gs L v n xs) (hm' : m≤n) (hl:xs.length=n*size) {w:World} (hm:Mr w0 gs L w):(Builtin.firstCells size m v).run P w=.ok (xs.take (m*size)).toArray w:=by
 obtain⟨p,c,rfl,⟨rfl,rfl,rfl⟩|⟨b,o,rfl,hr⟩⟩:=h
 ·simp[Builtin.firstCells]
 ·have hms:m*size≤n*size:=Nat.mul_le_mul_right _ hm';have hle:(xs.take (m*size)).length=m*size:=by rw[List.length_take];omega
  have:=run_loadCells_list (P:=P) w ⟨b,o,none⟩ (xs.take (m*size)) (fun j v hj=>by
   rw[v7];rw[List.getElem?_take] at hj
   split at hj
   ·exact hr w hm j v hj
   ·cases hj)
  rw[hle] at this;exact this
theorem Rds.len {v:Value} {n:Nat} {xs:List Value} (h:Rds w0 gs L v n xs) (w:World):(Builtin.lenOf v).run P w=.ok n w:=by
 obtain⟨p,c,rfl,_⟩:=h;rfl
theorem yJ {b:Builtin} {xs:Array Operand} {ats:Array TypeId} {ak:List Value} {a:Act} {ty:TypeId} {pos:String} {after:Array Edge} {gd:Option (Nat × Bool)} {dst:Option Tmp} (hk:Kn K a) (ha:evs K xs.toList=some ak) :
  execOp a.eval ⟨dst,.call { callee:=.builtin b,args:=xs,argTypes:=ats },ty,pos,after,gd⟩=builtin b ats ty (xs.map fun|.const _=>true|_=>false) ak.toArray:=by
 have e1:xs.map a.eval=ak.toArray:=by have h:=hk.evals ha;apply Array.ext';simpa using h
 rw[execOp_builtin,e1];rfl
theorem ru {st xt ty e size bts g t len cap n:Nat} {z cs xs cs' : List Value} {x y:Operand} {s v:Value} {L' : List Ent} [SlT P st e size] [SlT P xt e size] [ElT P e bts z] (hx:ev K x=some (.slice (some ⟨g,0,none⟩) len cap)) (hy:ev K y=some v)
  (hr:Rds w0 gs L v n xs) (hxl:xs.length=n*z.length) (hroom:len+n≤cap) (h1:xs.all Value.oneCell'=true) (hrp:Rp L g t cs cs' L') (hc:over cs (len*z.length) xs=cs') (hle:len*z.length+xs.length≤cs.length) (hs:size=z.length) (ht:t≠0) :
  ∀ a w,Kn K a→Me w0 gs L w→∀ o:Oper,o.op=.call { callee:=.builtin .append,args:=#[x,y],argTypes:=#[st,xt] }→o.type=ty →
   ∃ w',(execOp a.eval o).run P w=.ok (.value (.slice (some ⟨g,0,none⟩) (len+n) cap)) w'∧Me w0 gs L' w':=by
 intro a w hk hme o ho hty;obtain⟨dst,op,ty',pos,after,guard⟩:=o;subst ho;subst hc;have hok:=(hme.ok _ hrp.mem).row ht;have hu:∀ w,(underlying st).run P w=.ok (.slice e) w:=fun w=>by simp[underlying,SlT.under (P:=P) (t:=st)]
 have hu2:∀ w,(underlying xt).run P w=.ok (.slice e) w:=fun w=>by simp[underlying,SlT.under (P:=P) (t:=xt)]
 obtain⟨i,g1,g2,g3,_⟩:=ElT.bytes (P:=P) (e:=e) w;have hsz:∀ w,(sizeOf e).run P w=.ok size w:=SlT.size (P:=P) (t:=st);obtain⟨w',e1,e2,e3,e4,e5,e6,e7⟩:=vr (P:=P) (t:=t) g xs (len*z.length) 0 cs w Om (fun u hu=>List.all_eq_true.1 h1 u hu) hok;refine⟨w',?_,hme.write hrp e2 e3 e4 Om (fun k _ hk=>e6 k hk) e7⟩;rw[yJ hk (ak:=[.slice (some ⟨g,0,none⟩) len cap,v]) (by simp[evs,hx,hy]),builtin_append];subst hs;simp only[Sem.run_bind,Builtin.append_,List.getElem?_toArray,List.getElem?_cons_zero,List.getElem?_cons_succ,hu,Result.andThen_ok,hsz,hu2,Sem.run_pure,hr.len,Bool.false_eq_true,if_false];rw[if_pos hroom];simp only[Bool.not_false,if_true,Sem.run_bind,hr.first hxl hme.mr,Result.andThen_ok,Bool.false_eq_true,if_false,v7,Nat.zero_add,e1,Sem.run_pure]
end
section
variable {P:Program} {w0:World} {gs:List Nat} {K:List (Nat × Value)} {L:List Ent}
def ahx (P:Program) (w0:World) (gs:List Nat) (K:List (Nat × Value)) (L:List Ent) (op:Op) (ty:TypeId) (v:Value) (L' : List Ent):Prop :=
 ∀ a w,Kn K a→Me w0 gs L w→∀ o:Oper,o.op=op→o.type=ty→∃ w',(execOp a.eval o).run P w=.ok (.value v) w'∧Me w0 gs L' w'
section
variable {n:Nat} {ops:List Oper} {Q:Exit→Act→World→Prop} {rest:List Oper} {d:Nat} {op:Op} {ty:TypeId} {pos:String} {after:Array Edge} {gd:Option (Nat × Bool)}
theorem WO.both {v:Value} {L' : List Ent} (h:ahx P w0 gs K L op ty v L') (k:WO P w0 gs n ops Q ((d,v)::K) L' rest) (hd:Nat.blt d n=true:=by rfl) (hw:wk ops K gd=some true:=by rfl) :
  WO P w0 gs n ops Q K L (⟨some d,op,ty,pos,after,gd⟩::rest):=fun a w hdf hsz hk hme =>
 let ⟨_,h1,h2⟩:=h a w hk hme ⟨some d,op,ty,pos,after,gd⟩ rfl rfl
 abG (by simpa [Nat.blt_eq] using hd) hw hdf hsz hk h1 h2 k
end
theorem uU {st xt ty e size bts len cap n:Nat} {p:Option Addr} {z xs ys:List Value} {x y:Operand} {v:Value} [SlT P st e size] [SlT P xt e size] [ElT P e bts z] (hx:ev K x=some (.slice p len cap)) (hy:ev K y=some v)
  (ho:Rds w0 gs L (.slice p len cap) len ys) (hyl:ys.length=len*z.length) (hr:Rds w0 gs L v n xs) (hxl:xs.length=n*z.length) (hroom:cap<len+n) (hn:len+n<9223372036854775808) (hcap:Builtin.nextslicecap (len+n) cap*bts≤281474976710656) (hbts:bts≠0) (hs:size=z.length) :
  fv P w0 gs K L (.call { callee:=.builtin .append,args:=#[x,y],argTypes:=#[st,xt] }) ty (fun s=>.slice (some ⟨s 0,0,none⟩) (len+n) (s 1)) (fun s=>[⟨s 0,e,ys++xs++mkz (s 1 - (len+n)) z⟩]) (fun s=>len+n≤s 1∧s 1<9223372036854775808):=by
 intro a w hk hme o hop hty;obtain⟨dst,op,ty',pos,after,guard⟩:=o;subst hop;have hu:∀ w,(underlying st).run P w=.ok (.slice e) w:=fun w=>by simp[underlying,SlT.under (P:=P) (t:=st)]
 have hu2:∀ w,(underlying xt).run P w=.ok (.slice e) w:=fun w=>by simp[underlying,SlT.under (P:=P) (t:=xt)]
 have hsz:∀ w,(sizeOf e).run P w=.ok size w:=SlT.size (P:=P) (t:=st);obtain⟨i,g1,g2,g3,_⟩:=ElT.bytes (P:=P) (e:=e) w;obtain⟨i1,g1',g2',g3',_⟩:=ElT.bytes (P:=P) (e:=e) w.drew;obtain⟨v',g6,g7⟩:=ElT.zero (P:=P) (e:=e) w.drew;have hmd:Mr w0 gs L w.drew:=⟨⟨hme.mod.os,hme.mod.tape,hme.mod.output,hme.mod.size,hme.mod.block⟩,hme.ok⟩;generalize hG:(len+n)+w.tape w.drawn (.appendCap (len+n) cap e)%(2 ^ 63 - (len+n))=G;have hG1:len+n≤G:=by omega
 have hG2:G<9223372036854775808:=by
  have:=Nat.mod_lt (w.tape w.drawn (.appendCap (len+n) cap e)) (show 0<2 ^ 63 - (len+n) by omega);omega
 have hch:(choose (.appendCap (len+n) cap e)).run P w=.ok G w.drew:=by
  rw[run_choose];simp only[Question.forced,Bool.false_eq_true,if_false,Question.cut,hG];rfl
 have hroom' : ¬ (len+n≤cap):=by omega
 have hcap' : ¬ (Builtin.nextslicecap (len+n) cap*bts > 2 ^ 48):=by omega
 subst hs;have hrest:Builtin.zeroCells v'.cells (G - (len+n))=(mkz (G - (len+n)) z).toArray:=by
  unfold Builtin.zeroCells;rw[g7,← gJ];simp
 refine⟨fun j=>if j=0 then w.heap.size else G,w.drew.alloc (.cells (ys++xs++mkz (G - (len+n)) z).toArray e),?_,⟨hG1,hG2⟩,((Below.refl _ _).drew).alloc (Nat.le_refl _) _,?_⟩
 ·rw[yJ hk (ak:=[.slice p len cap,v]) (by simp[evs,hx,hy]),builtin_append];simp only[Sem.run_bind,Builtin.append_,List.getElem?_toArray,List.getElem?_cons_zero,List.getElem?_cons_succ,hu,Result.andThen_ok,hsz,hu2,Sem.run_pure,hr.len,Bool.false_eq_true,if_false];rw[if_neg hroom'];simp only[Sem.run_bind,g1,Result.andThen_ok,g2,hbts,or_self,and_false,if_false,false_or];rw[if_neg hcap'];simp only[Sem.run_bind,hch,Result.andThen_ok,g1',g2',run_askRoom,ho.first hyl hmd,Bool.not_false,if_true,hr.first hxl hmd,g6,hrest,newRow,run_newObj,Sem.run_pure];simp;rfl
 ·have hb:w.heap.size=w.drew.heap.size:=rfl;refine⟨fun ee he=>?_,fun ee he=>?_,by simp⟩
  ·have:ee=⟨w.heap.size,e,ys++xs++mkz (G - (len+n)) z⟩:=by simpa using he
   subst this;exact .of (heap_alloc_new w.drew _)
  ·have:ee=⟨w.heap.size,e,ys++xs++mkz (G - (len+n)) z⟩:=by simpa using he
   subst this;exact Nat.le_refl _
theorem qo {st ty e size g t off dl dc n m:Nat} {cs xs cs' ys:List Value} {x y:Operand} {ats:Array TypeId} {v:Value} {L' : List Ent} [SlT P st e size] (hx:ev K x=some (.slice (some ⟨g,off,none⟩) dl dc)) (hy:ev K y=some v) (hat:ats[0]?=some st)
  (hr:Rds w0 gs L v n xs) (hxl:xs.length=n*size) (hm:Nat.min n dl=m) (hys:xs.take (m*size)=ys) (h1:ys.all Value.oneCell'=true) (hrp:Rp L g t cs cs' L') (hc:over cs off ys=cs') (hle:off+ys.length≤cs.length) (ht:t≠0) :
  ahx P w0 gs K L (.call { callee:=.builtin .copy,args:=#[x,y],argTypes:=ats }) ty (.int .i64 (m:Int)) L':=by
 intro a w hk hme o ho hty;obtain⟨dst,op,ty',pos,after,guard⟩:=o;subst ho;subst hc;subst hm;have hok:=(hme.ok _ hrp.mem).row ht;have hu:∀ w,(underlying st).run P w=.ok (.slice e) w:=fun w=>by simp[underlying,SlT.under (P:=P) (t:=st)]
 have hsz:∀ w,(sizeOf e).run P w=.ok size w:=SlT.size (P:=P) (t:=st);obtain⟨w',e1,e2,e3,e4,e5,e6,e7⟩:=vr (P:=P) (t:=t) g ys off 0 cs w Om (fun u hu=>List.all_eq_true.1 h1 u hu) hok;refine⟨w',?_,hme.write hrp e2 e3 e4 Om (fun k _ hk=>e6 k hk) e7⟩;rw[yJ hk (ak:=[.slice (some ⟨g,off,none⟩) dl dc,v]) (by simp[evs,hx,hy]),builtin_copy];have htk:=hr.take (P:=P) (m:=Nat.min n dl) (Nat.min_le_left _ _) hxl hme.mr;rw[hys] at htk;simp only[Sem.run_bind,Builtin.copy_,hat,List.getElem?_toArray,List.getElem?_cons_zero,List.getElem?_cons_succ,hu,Result.andThen_ok,hsz,Sem.run_pure,hr.len,htk,e1,goInt]
theorem vh {t len elem size g o ty:Nat} {x:Operand} [ArT P t len elem size] (hx:ev K x=some (.pointer (some ⟨g,o,none⟩))):Does P w0 gs K L (.slice t x none none none) ty (.slice (some ⟨g,o,none⟩) len len):=by
 intro a w hk _ oo ho _;have hu:∀ w,(underlying t).run P w=.ok (.array len elem) w:=fun w=>by simp[underlying,ArT.under (P:=P) (t:=t)]
 simp only[execOp,ho,hk.eval hx,Option.map_none,Instr.sliceAt,Sem.run_bind,hu,Result.andThen_ok,Instr.sureAddr,Sem.run_pure,Instr.sliceBounds,ArT.size (P:=P) (t:=t),Nat.zero_mul,Nat.sub_zero];simp[v7]
theorem yG {t elem size ty len cap h:Nat} {p:Option Addr} {k:IntKind} {x y:Operand} [SlT P t elem size] (hx:ev K x=some (.slice p len cap)) (hy:ev K y=some (.int k (h:Int))) (hh:h≤cap):Does P w0 gs K L (.slice t x none (some y) none) ty (.slice p h cap):=by
 intro a w hk _ oo ho _;have hu:∀ w,(underlying t).run P w=.ok (.slice elem) w:=fun w=>by simp[underlying,SlT.under (P:=P) (t:=t)]
 have hb:((0:Int)≤(h:Int)∧(h:Int)≤(cap:Int)):=by omega
 simp only[execOp,ho,hk.eval hx,Option.map_none,Option.map_some,hk.eval hy,Instr.sliceAt,Sem.run_bind,hu,Result.andThen_ok,Instr.slice,Sem.run_pure,Instr.sliceBounds,Instr.sliceBound,asIntOf,if_pos hb,SlT.size (P:=P) (t:=t),Nat.zero_mul,Nat.sub_zero,Int.toNat_natCast];have:p.map (fun a=>a.add 0)=p:=by cases p<;>simp[Addr.add]
 simp[this]
theorem vn {t elem size ty len cap l b o o' : Nat} {k:IntKind} {x y:Operand} [SlT P t elem size] (hx:ev K x=some (.slice (some ⟨b,o,none⟩) len cap)) (hy:ev K y=some (.int k (l:Int))) (hh:l≤len) (hc:l<cap) (ho' : o+l*size=o') :
  Does P w0 gs K L (.slice t x (some y) none none) ty (.slice (some ⟨b,o',none⟩) (len - l) (cap - l)):=by
 intro a w hk _ oo ho _;subst ho';have hu:∀ w,(underlying t).run P w=.ok (.slice elem) w:=fun w=>by simp[underlying,SlT.under (P:=P) (t:=t)]
 have hb:((0:Int)≤(l:Int)∧(l:Int)≤(len:Int)):=by omega
 simp only[execOp,ho,hk.eval hx,Option.map_none,Option.map_some,hk.eval hy,Instr.sliceAt,Sem.run_bind,hu,Result.andThen_ok,Instr.slice,Sem.run_pure,Instr.sliceBounds,Instr.sliceBound,asIntOf,if_pos hb,SlT.size (P:=P) (t:=t),Int.toNat_natCast];have hne:¬ cap=l:=by omega
 simp[hne,v7]
theorem fb {t elem size ty len cap:Nat} {p:Option Addr} {x:Operand} [SlT P t elem size] (hx:ev K x=some (.slice p len cap)):Does P w0 gs K L (.call { callee:=.builtin .cap,args:=#[x],argTypes:=#[t] }) ty (.int .i64 (cap:Int)):=by
 intro a w hk _ oo ho _;obtain⟨dst,op,ty',pos,after,guard⟩:=oo;subst ho;have hu:∀ w,(underlying t).run P w=.ok (.slice elem) w:=fun w=>by simp[underlying,SlT.under (P:=P) (t:=t)]
 rw[yJ hk (ak:=[.slice p len cap]) (by simp[evs,hx]),builtin_cap];simp[Builtin.cap_,hu,goInt]
theorem abO {ty:Nat} {ats:Array TypeId} {x y:Operand} {k k' : IntKind} {m n r:Int} (hx:ev K x=some (.int k m)) (hy:ev K y=some (.int k' n)) (hr:(if n > m then n else m)=r):Does P w0 gs K L (.call { callee:=.builtin .max,args:=#[x,y],argTypes:=ats }) ty (.int k r):=by
 intro a w hk _ oo ho _;obtain⟨dst,op,ty',pos,after,guard⟩:=oo;subst ho;subst hr;rw[yJ hk (ak:=[.int k m,.int k' n]) (by simp[evs,hx,hy]),builtin_max];simp[run_max_int2]
theorem uv {ty:Nat} {ats:Array TypeId} {x y:Operand} {k k' : IntKind} {m n r:Int} (hx:ev K x=some (.int k m)) (hy:ev K y=some (.int k' n)) (hr:(if n<m then n else m)=r):Does P w0 gs K L (.call { callee:=.builtin .min,args:=#[x,y],argTypes:=ats }) ty (.int k r):=by
 intro a w hk _ oo ho _;obtain⟨dst,op,ty',pos,after,guard⟩:=oo;subst ho;subst hr;rw[yJ hk (ak:=[.int k m,.int k' n]) (by simp[evs,hx,hy]),builtin_min];simp[run_min_int2]
end
end Sx
end
section
open Go.RowKit
def Rd (w:World) (v:Value) (xs:List Value):Prop :=
 (∀ u∈xs,u.oneCell'=true)∧((v=.slice none 0 0∧xs=[])∨∃ (a:Addr) (c:Nat),v=.slice (some a) xs.length c∧a.block<w.heap.size∧∀ j u,xs[j]?=some u→w.cell? (a.add j)=some u)
theorem add_block (a:Addr) (j:Nat):(a.add j).block=a.block:=by unfold Addr.add;split<;>rfl
theorem Rd.below {w w' : World} {v:Value} {xs:List Value} {B:Nat} (h:Rd w v xs) (hB:w.heap.size=B) (hb:Below B w w'):Rd w' v xs:=by
 subst hB;obtain⟨h1,h2|⟨a,c,h2,h3,h4⟩⟩:=h
 ·exact⟨h1,.inl h2⟩
 ·exact⟨h1,.inr ⟨a,c,h2,Nat.lt_of_lt_of_le h3 hb.size,fun j u hj=>(hb.cell (p:=a.add j) (by rw[add_block];exact h3)).trans (h4 j u hj)⟩⟩
def km (n1 n2 k:Nat):Nat:=if k=0 then 0 else if k=1 then n1 else n1+n2
def afL (xs1 xs2:List Value) (k:Nat):List Value:=if k=0 then [] else if k=1 then xs1 else xs1++xs2
theorem qS {B:Nat} {w0 w w' : World} {e:TypeId} {size n:Nat} {v:Value} {xs:List Value} (hB:B≤w.heap.size) (hb:Below B w0 w) (h:w.ownsRow B e size v n xs) (hg:w.grownBy w' v.ownBlock):Below B w0 w':=by
 refine hb.grown hg hB (fun k e=>?_)
 rcases h.2 with ⟨rfl,_⟩|⟨g,cap,cur,rfl,hB,_⟩
 ·cases e
 ·cases e;exact hB
set_option maxRecDepth 100000 in
theorem sa (v1 v2:Value) (xs1 xs2:List Value) (S c:Nat) (w:World) (h1:Rd w v1 xs1) (h2:Rd w v2 xs2) (hS:Blk w S 185 [v1,v2]) (hn:0<xs1.length+xs2.length) (hm:xs1.length+xs2.length≤1099511627776) :
  Calls Tryz.prog 196 #[.slice (some ⟨S,0,none⟩) 2 c] w fun e w' =>
   ∃ v,e=.returned v∧w'.ownsRow w.heap.size 22 1 v (xs1.length+xs2.length) (xs1++xs2)∧Below w.heap.size w w':=by
 have hb1:∃ b n c,v1=.slice b n c∧n=xs1.length:=by
  obtain⟨_,⟨rfl,rfl⟩|⟨a,c,rfl,_⟩⟩:=h1
  ·exact⟨_,_,_,rfl,rfl⟩
  ·exact⟨_,_,_,rfl,rfl⟩
 have hb2:∃ b n c,v2=.slice b n c∧n=xs2.length:=by
  obtain⟨_,⟨rfl,rfl⟩|⟨a,c,rfl,_⟩⟩:=h2
  ·exact⟨_,_,_,rfl,rfl⟩
  ·exact⟨_,_,_,rfl,rfl⟩
 obtain⟨b1,n1,c1,rfl,e1⟩:=hb1;obtain⟨b2,n2,c2,rfl,e2⟩:=hb2;rw[← e1,← e2] at hn hm ⊢;have lS:=hS.lt;have cS0:=hS.cell_at (i:=0) rfl;have cS1:=hS.cell_at (i:=1) rfl;have H1:=Lib.hid h1;have H2:=Lib.hid h2;have E1:=Lib.hid e1;have E2:=Lib.hid e2;clear h1 h2 e1 e2
 go_enter Tryz.func196,Tryz.ntmps196
 go_wp2
 go_loopw [3,11] (fun t3 t11 wr=>∃ k:Nat,k≤2∧t11=.int .i64 k∧t3=.int .i64 (km n1 n2 k:Nat)∧wr=w) (fun _ i _=>2 - (intOf i).toNat)
 case atStart=>exact⟨0,by omega,rfl,rfl,rfl⟩
 case round =>
  obtain⟨k,hk,rfl,rfl,rfl⟩:=hrel;have hk3:k=0∨k=1∨k=2:=by omega
  rcases hk3 with rfl|rfl|rfl
  ·have ht0:km n1 n2 0=0:=rfl;rw[ht0];go_wp2
   go_roundw
   case rel=>exact⟨1,by omega,rfl,by simp[km],trivial⟩
   case measure=>simp[intOf]
  ·have ht0:km n1 n2 1=n1:=rfl;rw[ht0];go_wp2
   go_roundw
   case rel=>exact⟨2,by omega,rfl,by simp[km],trivial⟩
   case measure=>simp[intOf]
  ·have ht0:km n1 n2 2=n1+n2:=rfl;rw[ht0]
   go_wp2_with (go_at_call 229;refine (rU (n1+n2) hn hm _).mono ?_;rintro e W ⟨v,rfl,hown,hbw⟩)
   obtain⟨w,rfl⟩ : ∃ w:World,w=wr:=⟨_,rfl⟩;clear cS0 cS1 ht0
   go_loopw [6,27] (fun t6 t27 wr=>∃ (x6:Value) (k:Nat),x6=t6∧k≤2∧t27=.int .i64 k∧wr.ownsRow w.heap.size 22 1 x6 (km n1 n2 k) (afL xs1 xs2 k)∧Below w.heap.size w wr) (fun _ i _=>2 - (intOf i).toNat)
   case atStart=>exact⟨_,0,rfl,by omega,rfl,hown,hbw⟩
   case round =>
    clear hown hbw;obtain⟨x6,k,rfl,hk,rfl,hown,hbw⟩:=hrel;have hinfo:(Tryz.prog.info? 22).map (fun i=>(i.zero,i.size,i.bytes))=some (some (.int .u64 0),1,8):=by kernel_rfl
    obtain⟨i0,hi,hz0,hz1,hz2⟩:=info_parts hinfo;have hk3:k=0∨k=1∨k=2:=by omega
    rcases hk3 with rfl|rfl|rfl
    ·have c0:=(hS.below hbw lS).cell_at (i:=0) rfl;have hr:=H1.out.below rfl hbw;have e1:=E1.out;obtain⟨ho,⟨e,rfl⟩|⟨a,c',e,hlt,hc⟩⟩:=hr
     ·obtain⟨rfl,q1,q2⟩ : b1=none∧n1=0∧c1=0:=by cases e;exact⟨rfl,rfl,rfl⟩
      have hx0:Value.slice none n1 c1=.slice none 0 0:=by rw[q1,q2]
      have Q:=Lib.hid q1;clear e1 ho e q1 q2;have HX:=Lib.hid hx0;clear hx0
      go_wp2_with (at_builtin;refine wpList_append_own_none rfl _ _ 185 rfl w.heap.size 22 i0 1 Tryz.underlying185 hi x6 _ _ rfl hown HX.out ?_)
      go_roundw
      case rel=>exact⟨_,1,rfl,by omega,rfl,by simpa [km,afL,Q.out] using hown,hbw⟩
      case measure=>simp[intOf]
     ·cases e;clear e1
      go_wp2_with (at_builtin;refine wpList_append_own _ rfl _ _ 185 rfl w.heap.size 22 i0 (.int .u64 0) 1 8 Tryz.underlying185 hi hz0 hz1 hz2 rfl (by decide) x6 _ _ rfl hown a xs1.length _ xs1 rfl (by simp) hc ho (by simp[km,maxLen];omega) (by simp[km];omega) hbw.size ?_;intro v' w1 hown' hgrow _)
      go_roundw
      case rel=>exact⟨_,1,rfl,by omega,rfl,by simpa [km,afL] using hown',qS hbw.size hbw hown hgrow⟩
      case measure=>simp[intOf]
    ·have c0:=(hS.below hbw lS).cell_at (i:=1) rfl;have hr:=H2.out.below rfl hbw;have e1:=E2.out;obtain⟨ho,⟨e,rfl⟩|⟨a,c',e,hlt,hc⟩⟩:=hr
     ·obtain⟨rfl,q1,q2⟩ : b2=none∧n2=0∧c2=0:=by cases e;exact⟨rfl,rfl,rfl⟩
      have hx0:Value.slice none n2 c2=.slice none 0 0:=by rw[q1,q2]
      have Q:=Lib.hid q1;clear e1 ho e q1 q2;have HX:=Lib.hid hx0;clear hx0
      go_wp2_with (at_builtin;refine wpList_append_own_none rfl _ _ 185 rfl w.heap.size 22 i0 1 Tryz.underlying185 hi x6 _ _ rfl hown HX.out ?_)
      go_roundw
      case rel=>exact⟨_,2,rfl,by omega,rfl,by simpa [km,afL,Q.out] using hown,hbw⟩
      case measure=>simp[intOf]
     ·cases e;clear e1
      go_wp2_with (at_builtin;refine wpList_append_own _ rfl _ _ 185 rfl w.heap.size 22 i0 (.int .u64 0) 1 8 Tryz.underlying185 hi hz0 hz1 hz2 rfl (by decide) x6 _ _ rfl hown a xs2.length _ xs2 rfl (by simp) hc ho (by simp[km,maxLen];omega) (by simp[km];omega) hbw.size ?_;intro v' w1 hown' hgrow _)
      go_roundw
      case rel=>exact⟨_,2,rfl,by omega,rfl,by simpa [km,afL] using hown',qS hbw.size hbw hown hgrow⟩
      case measure=>simp[intOf]
    ·go_wp2
     go_ret
     refine⟨_,rfl,?_,hbw⟩;simpa [km,afL] using hown
end
section
open Go.RowKit Go.Shelf
attribute [local go_sem] Oper.semAt_some
def upto {α:Type} (f:Nat→α) (k:Nat):List α:=(List.range k).map f
theorem bI {α:Type} (f:Nat→α) (k:Nat):upto f (k+1)=upto f k++[f k]:=by simp[upto,List.range_succ]
theorem kR {α:Type} (f:Nat→α) (k:Nat):(upto f k).length=k:=by simp[upto]
abbrev U64:Type:={ n:Nat // n<18446744073709551616 }
instance:Inhabited U64:=⟨⟨0,by omega⟩⟩
def uL (b c:Nat) (A B:World):Prop:=B.heap[b]?=A.heap[b]?∧B.heap[c]?=A.heap[c]?
theorem uL.refl (b c:Nat) (A:World):uL b c A A:=⟨rfl,rfl⟩
theorem uL.trans {b c:Nat} {A B C:World} (h:uL b c A B) (k:uL b c B C):uL b c A C:=⟨k.1.trans h.1,k.2.trans h.2⟩
theorem uL.cell1 {b c:Nat} {A B:World} (h:uL b c A B) (j:Nat):B.cell? ⟨b,j,none⟩=A.cell? ⟨b,j,none⟩:=World.cell?_of_block (a:=⟨b,j,none⟩) h.1
theorem uL.cell2 {b c:Nat} {A B:World} (h:uL b c A B) (j:Nat):B.cell? ⟨c,j,none⟩=A.cell? ⟨c,j,none⟩:=World.cell?_of_block (a:=⟨c,j,none⟩) h.2
theorem uL.put {b c:Nat} {w:World} (hb:b<w.heap.size) (hc:c<w.heap.size) (W:World) (l:Nat) (o o' : Obj) (hl:w.heap.size≤l) (_:W.heap[l]?=some o) (_:o.isCells=false) (_:o.isWalk=false):uL b c W (W.putObj l o') :=
 ⟨World.putObj_heap_other Om,World.putObj_heap_other Om⟩
def ra (zs:List U64) (j:Nat):Nat × U64:=(zs.length - 1 - j,zs[zs.length - 1 - j]?.getD default)
set_option maxRecDepth 100000 in
theorem ly (F:Fence) (n:Nat) (hf:F.fn 230) (hro:F.round=none) (hn:1≤n) (l Bs b cap:Nat) (zs:List U64) (hreach:zs.length≤1099511627776) (J Jx:List (Nat × U64)→World→Prop)
  (hY:∀ pre x W,J pre W→pre.length<zs.length→YieldAt F (n - 1) Tryz.prog l #[.int .i64 (x.1:Int),.int .u64 (x.2.1:Int)] W fun e W' =>
   (e=.returned (.bool true)∧J (pre++[x]) W'∧uL b Bs W W')∨(e=.returned (.bool false)∧Jx (pre++[x]) W'))
  (W:World) (hBs:W.cell? ⟨Bs,0,none⟩=some (.slice (some ⟨b,0,none⟩) zs.length cap)) (hc:∀ j,j<zs.length→W.cell? ⟨b,j,none⟩=some (.int .u64 ((zs[j]?.getD default).1:Int))) (h0:J [] W) :
  CallsIn F n Tryz.prog 230 #[.func (.yield l) #[] #[],.pointer (some ⟨Bs,0,none⟩)] W fun e W'=>(∃ v,e=.returned v) ∧
   ((∃ ys,ys=upto (ra zs) zs.length∧J ys W')∨(∃ pre,(∃ k,k≤zs.length∧pre=upto (ra zs) k)∧Jx pre W')):=by
 refine callsIn_of_wp Tryz.func230 rfl hf ?_ hro;simp only[Tryz.ntmps230,List.size_toArray,List.length_cons,List.length_nil,Nat.reduceAdd,Nat.reduceSub,Array.replicate_succ,Array.replicate_zero,List.push_toArray,List.append_toArray,List.nil_append,List.cons_append]
 gi_wp2
 gi_loopw [3] (fun i wr=>∃ k:Nat,k≤zs.length∧i=.int .i64 ((zs.length:Int) - 1 - (k:Int))∧J (upto (ra zs) k) wr∧uL b Bs W wr)
  (fun i _=>(intOf i+1).toNat)
 case atStart=>exact⟨0,Nat.zero_le _,by simp,h0,uL.refl _ _ _⟩
 case round =>
  obtain⟨k,hk,hi,hJs,hnx⟩:=hrel;have hBs':=(hnx.cell2 0).trans hBs
  by_cases hlt:k<zs.length
  ·rw[show (zs.length:Int) - 1 - (k:Int)=((zs.length - 1 - k:Nat):Int) by omega] at hi;subst hi;have hjl:zs.length - 1 - k<zs.length:=by omega
   have hcx:=(hnx.cell1 _).trans (hc _ hjl);obtain⟨fn,tmps,assign,body,hy,hR⟩:=hY _ (ra zs k) wr hJs (by rw[kR];exact hlt);have hse:=bI (ra zs) k;unfold ra at hy;dsimp only at hy;generalize hj:zs.length - 1 - k=j at *;generalize hz:zs[j]?.getD default=z at *;have hbk:ra zs k=(j,z):=by simp only[ra,hj,hz]
   have hjz:(j:Int)<(zs.length:Int):=by omega
   have hnext:(j:Int) - 1=(zs.length:Int) - 1 - ((k+1:Nat):Int):=by omega
   have HN:=Lib.hid hnext;clear hnext
   gi_wp2
   refine hR.mono ?_;rintro e W3 (⟨rfl,hJ3,hk3⟩|⟨rfl,hJx3⟩)
   ·gi_wp2
    go_roundw
    case rel=>exact⟨k+1,by omega,by rw[← HN.out],by rw[hse];exact hJ3,hnx.trans hk3⟩
    case measure=>first|(simp[intOf];done)|(simp[intOf];omega)
   ·gi_wp2
    refine bodyPost_ret (results_none rfl _ _ _) rfl ?_;exact⟨⟨_,rfl⟩,.inr ⟨_,⟨k+1,by omega,hse.symm⟩,hJx3⟩⟩
  ·obtain rfl:k=zs.length:=by omega
   rw[show (zs.length:Int) - 1 - (zs.length:Int) = -1 by omega] at hi;subst hi
   gi_wp2
   go_end0
   exact⟨⟨_,rfl⟩,.inl ⟨_,rfl,hJs⟩⟩
theorem qP (n:Nat) (hn:1≤n) (Bs b cap:Nat) (zs:List U64) (hreach:zs.length≤1099511627776) (w:World) (hBn:Bs<w.heap.size) (hb:b<w.heap.size)
  (hBs:w.cell? ⟨Bs,0,none⟩=some (.slice (some ⟨b,0,none⟩) zs.length cap)) (hc:∀ j,j<zs.length→w.cell? ⟨b,j,none⟩=some (.int .u64 ((zs[j]?.getD default).1:Int))) :
  SeqStopsK Fence.wide n Tryz.prog 230 #[.pointer (some ⟨Bs,0,none⟩)] (fun x:Nat × U64=>#[Value.int .i64 (x.1:Int),Value.int .u64 (x.2.1:Int)]) (uL b Bs) (fun ys=>ys=upto (ra zs) zs.length)
   (fun pre=>∃ k,k≤zs.length∧pre=upto (ra zs) k) zs.length w:=fun l J Jx W hW _ _ hY h0 =>
 ly Fence.wide n trivial rfl hn l Bs b cap zs hreach J Jx hY W ((hW.cell (p:=⟨Bs,0,none⟩) hBn).trans hBs) (fun j hj=>(hW.cell (p:=⟨b,j,none⟩) hb).trans (hc j hj)) h0
theorem rx (a:Option Addr) (len cap:Nat) (w:World) :
  Calls Tryz.prog 197 #[.slice a len cap] w fun e w'=>e=.returned (.func (.func 230) #[] #[.pointer (some ⟨w.heap.size,0,none⟩)])∧w'=w.alloc (.cells #[.slice a len cap] 185):=by
 go_enter Tryz.func197,Tryz.ntmps197
 go_wp2
 go_ret
 exact⟨rfl,rfl⟩
theorem mY {W W' : World} (h:Ext W W'):KeepsOthers W W':=⟨h.size,fun k o hk _=>(h.block k (Array.getElem?_eq_some_iff.1 hk).1).trans hk⟩
theorem Blk.own {A B:World} {row:Option Nat} {g:Nat} {t:TypeId} {cs:List Value} (h:Blk A g t cs) (hg:A.grownBy B row) (hr:∀ r,row=some r→∃ o:Obj,A.heap[r]?=some o∧o.isCells=false):Blk B g t cs:=by
 refine h.grown hg (fun e=>?_);obtain⟨o,h1,h2⟩:=hr g e.symm;unfold Blk at h;rw[h] at h1;cases h1;cases h2
end
end Go.Proofs.YtiiefkchpicncaaGreatDoor
