/- Part 4 of the proof. -/
import Derived.Test.YtiaibpcaloigkaaGreatDoorG03
set_option linter.unusedSimpArgs false
set_option linter.unusedVariables false
namespace Go.Proofs.YtiaibpcaloigkaaGreatDoor
section
open Go Go.RowKit Go.BigFrame
namespace Sx
theorem i64_in {x:Int} (h1 : -9223372036854775808≤x) (h2:x≤9223372036854775807):IntKind.i64.wrap x=x:=by
 simp[IntKind.wrap,IntKind.signed,IntKind.bits];split<;>omega
theorem u64_in {x:Int} (h1:0≤x) (h2:x≤18446744073709551615):IntKind.u64.wrap x=x:=by
 simp only[IntKind.wrap,IntKind.signed,IntKind.bits];simp;omega
theorem u32_in {x:Int} (h1:0≤x) (h2:x≤4294967295):IntKind.u32.wrap x=x:=by
 simp only[IntKind.wrap,IntKind.signed,IntKind.bits];simp;omega
theorem u8_in {x:Int} (h1:0≤x) (h2:x≤255):IntKind.u8.wrap x=x:=by
 simp only[IntKind.wrap,IntKind.signed,IntKind.bits];simp;omega
theorem zl {x r:Int} (h1 : -9223372036854775808≤x) (h2:x≤9223372036854775807) (e:x=r):IntKind.i64.wrap x=r:=(i64_in h1 h2).trans e
theorem uf {x r:Int} (h1:0≤x) (h2:x≤18446744073709551615) (e:x=r):IntKind.u64.wrap x=r:=(u64_in h1 h2).trans e
theorem oX {x r:Int} (h1:0≤x) (h2:x≤4294967295) (e:x=r):IntKind.u32.wrap x=r:=(u32_in h1 h2).trans e
theorem tt {x r:Int} (h1:0≤x) (h2:x≤255) (e:x=r):IntKind.u8.wrap x=r:=(u8_in h1 h2).trans e
section
variable {P:Program} {w0:World} {gs:LN} {K:List (Nat × Value)} {L:List Ent}
theorem pg {x:Operand} {ty:TypeId} {v:Value} (hx:ev K x=some v:=by rfl):Does P w0 gs K L (.move x) ty v:=vK hx
theorem tK {x:Operand} {ty:TypeId} {v:Value} (hx:ev K x=some v:=by rfl):Does P w0 gs K L (.assign x) ty v:=lC hx
theorem lL {c x y:Operand} {ty:TypeId} {v:Value} (hc:ev K c=some (.bool true):=by rfl) (hx:ev K x=some v:=by rfl):Does P w0 gs K L (.pick c x y) ty v:=iI hc hx
theorem kX {c x y:Operand} {ty:TypeId} {v:Value} (hc:ev K c=some (.bool false):=by rfl) (hy:ev K y=some v:=by rfl):Does P w0 gs K L (.pick c x y) ty v:=i4 hc hy
theorem zw {t g off t' n:Nat} {cs vs:LV} {x:Operand} {ty:TypeId} [AgT P t n] (hx:ev K x=some (.pointer (some ⟨g,off,none⟩)):=by rfl)
  (hm:Hs L g t' cs:=by (repeat (first|exact Hs.here|apply Hs.there))) (hc:cut cs off n=vs:=by (first|(simp only[cut,zk,zc,List.drop_succ_cons,List.drop_zero,List.take_succ_cons,List.take_zero,List.drop_nil,List.take_nil]<;>rfl)|rfl)) (hl:vs.length=n:=by rfl) :
  Does P w0 gs K L (.load t x) ty (.agg vs.toArray):=bO hx hm hc hl
theorem zx {t g off t' : Nat} {cs:LV} {v:Value} {x:Operand} {ty:TypeId} [OnT P t] (hx:ev K x=some (.pointer (some ⟨g,off,none⟩)):=by rfl)
  (hm:Hs L g t' cs:=by (repeat (first|exact Hs.here|apply Hs.there))) (hc:cs[off]?=some v:=by rfl):Does P w0 gs K L (.load t x) ty v:=gU hx hm hc
theorem yv {s i off g o o' : Nat} {x:Operand} {ty:TypeId} [FlT P s i off] (hx:ev K x=some (.pointer (some ⟨g,o,none⟩)):=by rfl) (ho:o+off=o':=by (first|(simp only[Nat.reduceAdd,Nat.zero_add]<;>rfl)|rfl)) :
  Does P w0 gs K L (.fieldAddr s x i) ty (.pointer (some ⟨g,o',none⟩)):=qv hx ho
theorem uy {x:Operand} {ty:TypeId} {p:Addr} (hx:ev K x=some (.pointer (some p)):=by rfl):Does P w0 gs K L (.nilCheck x) ty (.pointer (some p)):=ot hx
theorem yo {t g o i len elem size o' : Nat} {k:IntKind} {x y:Operand} {ty:TypeId} [ArT P t len elem size] (hx:ev K x=some (.pointer (some ⟨g,o,none⟩)):=by rfl)
  (hy:ev K y=some (.int k (i:Int)):=by rfl) (hi:i<len:=by omega) (ho:o+i*size=o':=by (first|(simp only[Nat.reduceAdd,Nat.reduceMul,Nat.zero_add,Nat.mul_one,Nat.zero_mul,Nat.add_zero]<;>rfl)|rfl)):Does P w0 gs K L (.indexAddr t x y) ty (.pointer (some ⟨g,o',none⟩)):=vn hx hy hi ho
theorem vw {t g o i len cap elem size o' : Nat} {k:IntKind} {x y:Operand} {ty:TypeId} [SlT P t elem size] (hx:ev K x=some (.slice (some ⟨g,o,none⟩) len cap):=by rfl)
  (hy:ev K y=some (.int k (i:Int)):=by rfl) (hi:i<len:=by omega) (ho:o+i*size=o':=by (first|(simp only[Nat.reduceAdd,Nat.reduceMul,Nat.zero_add,Nat.mul_one,Nat.zero_mul,Nat.add_zero]<;>rfl)|rfl)):Does P w0 gs K L (.indexAddr t x y) ty (.pointer (some ⟨g,o',none⟩)):=zb hx hy hi ho
theorem v8 {t g o len elem size o' : Nat} {m:Int} {k:IntKind} {x y:Operand} {ty:TypeId} [ArT P t len elem size] (hx:ev K x=some (.pointer (some ⟨g,o,none⟩)):=by rfl)
  (hy:ev K y=some (.int k m):=by rfl) (h0:0≤m:=by omega) (hi:m<(len:Int):=by omega) (ho:o+m.toNat*size=o':=by (first|(simp only[Int.reduceToNat,Nat.reduceAdd,Nat.reduceMul,Nat.zero_add,Nat.mul_one,Nat.zero_mul,Nat.add_zero]<;>rfl)|rfl)):Does P w0 gs K L (.indexAddr t x y) ty (.pointer (some ⟨g,o',none⟩)) :=
 vn hx (by rw[hy,Int.toNat_of_nonneg h0]) Om ho
theorem uQ {t g o len cap elem size o' : Nat} {m:Int} {k:IntKind} {x y:Operand} {ty:TypeId} [SlT P t elem size] (hx:ev K x=some (.slice (some ⟨g,o,none⟩) len cap):=by rfl)
  (hy:ev K y=some (.int k m):=by rfl) (h0:0≤m:=by omega) (hi:m<(len:Int):=by omega) (ho:o+m.toNat*size=o':=by (first|(simp only[Int.reduceToNat,Nat.reduceAdd,Nat.reduceMul,Nat.zero_add,Nat.mul_one,Nat.zero_mul,Nat.add_zero]<;>rfl)|rfl)):Does P w0 gs K L (.indexAddr t x y) ty (.pointer (some ⟨g,o',none⟩)) :=
 zb hx (by rw[hy,Int.toNat_of_nonneg h0]) Om ho
theorem u6 {x:Operand} {ty:TypeId} {i:Nat} {vs:LV} {v:Value} (hx:ev K x=some (.tuple vs.toArray):=by rfl) (hi:vs[i]?=some v:=by rfl):Does P w0 gs K L (.extract x i) ty v:=mC hx hi
theorem bX {x:Operand} {t ty:TypeId} {p:Prop} [Decidable p] (hx:ev K x=some (.bool (decide p)):=by rfl):Does P w0 gs K L (.unOp .not t x) ty (.bool (decide (¬ p))):=by
 rw[decide_not];exact rb hx
theorem bn {x:Operand} {t ty:TypeId} (hx:ev K x=some (.bool true):=by rfl):Does P w0 gs K L (.unOp .not t x) ty (.bool false):=rb hx
theorem ap {x:Operand} {t ty:TypeId} (hx:ev K x=some (.bool false):=by rfl):Does P w0 gs K L (.unOp .not t x) ty (.bool true):=rb hx
theorem adH {x:Operand} {t ty:TypeId} {b:Bool} (hx:ev K x=some (.bool b):=by rfl):Does P w0 gs K L (.unOp .not t x) ty (.bool !b):=rb hx
theorem mp {fn:Go.Fn} {first captured:Array Operand} {fs cs:LV} {ty:TypeId} (h1:evs K first.toList=some fs:=by rfl) (h2:evs K captured.toList=some cs:=by rfl) :
  Does P w0 gs K L (.makeFunc fn first captured) ty (.func fn fs.toArray cs.toArray):=zH h1 h2
theorem acK {x y:Operand} {t yt ty:TypeId} {k:IntKind} {m n r:Int} (hx:ev K x=some (.int k m):=by rfl) (hy:ev K y=some (.int k n):=by rfl)
  (hr:k.wrap (m+n)=r:=by first|exact zl Om Om (by first|(simp only[Int.reduceAdd]<;>rfl)|rfl)|exact tt Om Om (by first|(simp only[Int.reduceAdd]<;>rfl)|rfl)|exact uf Om Om (by first|(simp only[Int.reduceAdd]<;>rfl)|rfl)|exact oX Om Om (by first|(simp only[Int.reduceAdd]<;>rfl)|rfl)|rfl) :
  Does P w0 gs K L (.binOp .add t x y yt) ty (.int k r):=zi hx hy hr
theorem acT {x y:Operand} {t yt ty:TypeId} {k:IntKind} {m n r:Int} (hx:ev K x=some (.int k m):=by rfl) (hy:ev K y=some (.int k n):=by rfl)
  (hr:k.wrap (m - n)=r:=by first|exact zl Om Om (by first|(simp only[Int.reduceSub]<;>rfl)|rfl)|exact tt Om Om (by first|(simp only[Int.reduceSub]<;>rfl)|rfl)|exact uf Om Om (by first|(simp only[Int.reduceSub]<;>rfl)|rfl)|exact oX Om Om (by first|(simp only[Int.reduceSub]<;>rfl)|rfl)|rfl) :
  Does P w0 gs K L (.binOp .sub t x y yt) ty (.int k r):=zG hx hy hr
theorem aeu {x y:Operand} {t yt ty:TypeId} {k:IntKind} {m n r:Int} (hx:ev K x=some (.int k m):=by rfl) (hy:ev K y=some (.int k n):=by rfl)
  (hr:k.wrap (m*n)=r:=by first|exact zl Om Om (by first|(simp only[Int.reduceMul]<;>rfl)|rfl)|exact tt Om Om (by first|(simp only[Int.reduceMul]<;>rfl)|rfl)|exact uf Om Om (by first|(simp only[Int.reduceMul]<;>rfl)|rfl)|exact oX Om Om (by first|(simp only[Int.reduceMul]<;>rfl)|rfl)|rfl) :
  Does P w0 gs K L (.binOp .mul t x y yt) ty (.int k r):=ym hx hy hr
theorem aeN {x y:Operand} {t yt ty:TypeId} {k:IntKind} {m n:Int} (hx:ev K x=some (.int k m):=by rfl) (hy:ev K y=some (.int k n):=by rfl):Does P w0 gs K L (.binOp .eql t x y yt) ty (.bool (decide (m=n))):=nb hx hy
theorem acS {x y:Operand} {t yt ty:TypeId} {k:IntKind} {m n:Int} (hx:ev K x=some (.int k m):=by rfl) (hy:ev K y=some (.int k n):=by rfl):Does P w0 gs K L (.binOp .neq t x y yt) ty (.bool (decide (m≠n))):=oI hx hy
theorem adM {x y:Operand} {t yt ty:TypeId} {k:IntKind} {m n:Int} (hx:ev K x=some (.int k m):=by rfl) (hy:ev K y=some (.int k n):=by rfl):Does P w0 gs K L (.binOp .lss t x y yt) ty (.bool (decide (m<n))):=nz hx hy
theorem adR {x y:Operand} {t yt ty:TypeId} {k:IntKind} {m n:Int} (hx:ev K x=some (.int k m):=by rfl) (hy:ev K y=some (.int k n):=by rfl):Does P w0 gs K L (.binOp .leq t x y yt) ty (.bool (decide (m≤n))):=o6 hx hy
theorem adn {x y:Operand} {t yt ty:TypeId} {k:IntKind} {m n:Int} (hx:ev K x=some (.int k m):=by rfl) (hy:ev K y=some (.int k n):=by rfl):Does P w0 gs K L (.binOp .gtr t x y yt) ty (.bool (decide (n<m))):=oC hx hy
theorem adC {x y:Operand} {t yt ty:TypeId} {k:IntKind} {m n:Int} (hx:ev K x=some (.int k m):=by rfl) (hy:ev K y=some (.int k n):=by rfl):Does P w0 gs K L (.binOp .geq t x y yt) ty (.bool (decide (n≤m))):=oh hx hy
theorem cR {s t ty:TypeId} {x:Operand} {k k' : IntKind} {n r:Int} [InT P s k'] [InT P t k] (hx:ev K x=some (.int k' n):=by rfl)
  (hr:k.wrap n=r:=by first|exact zl Om Om rfl|exact tt Om Om rfl|exact uf Om Om rfl|exact oX Om Om rfl|rfl):Does P w0 gs K L (.convert s t x) ty (.int k r):=zr hx hr
theorem j9 {x:Operand} {t ty elem size:Nat} {p:Option Addr} {n c:Nat} [SlT P t elem size] (hx:ev K x=some (.slice p n c):=by rfl) :
  Does P w0 gs K L (.call { callee:=.builtin .len,args:=#[x],argTypes:=#[t] }) ty (.int .i64 (n:Int)):=ad hx
theorem tk {t ty:TypeId} {places:LP} {z cs:LV} {xs:Array (Nat × Operand)} {vs:List (Nat × Value)} [BuT P t places z] (h1:evp K xs.toList=some vs:=by rfl)
  (h2:ui (nth places) z vs=some cs:=by (first|(simp only[ui,nth,cellsOf,zk,over,List.length_cons,List.length_nil,List.drop_succ_cons,List.drop_zero,List.take_succ_cons,List.take_zero,List.drop_nil,List.take_nil,List.cons_append,List.nil_append,List.append_nil,Nat.reduceAdd,Nat.beq_refl,Nat.ble_eq,Nat.reduceLeDiff,cond_true,Bool.and_self]<;>rfl)|rfl)):Does P w0 gs K L (.build t xs) ty (.agg cs.toArray):=uL h1 h2
theorem pQ {t ty len elem size:Nat} {z cs:LV} {zv:Value} {xs:Array (Nat × Operand)} {vs:List (Nat × Value)} [ArT P t len elem size] [ZeT P t zv] (hz:zv=.agg z.toArray:=by rfl) (h1:evp K xs.toList=some vs:=by rfl)
  (h2:ui (fun i=>some (i*size,size)) z vs=some cs:=by rfl):Does P w0 gs K L (.build t xs) ty (.agg cs.toArray):=zz hz h1 h2
theorem kq {s i off t n ty:Nat} {x:Operand} {cs vs:LV} [FiT P s i off t] [AgT P t n] (hx:ev K x=some (.agg cs.toArray):=by rfl) (hc:cut cs off n=vs:=by (first|(simp only[cut,zk,zc,List.drop_succ_cons,List.drop_zero,List.take_succ_cons,List.take_zero,List.drop_nil,List.take_nil]<;>rfl)|rfl)) :
  Does P w0 gs K L (.field s x i) ty (.agg vs.toArray):=iU hx hc
theorem p9 {s i off t ty:Nat} {x:Operand} {cs:LV} {v:Value} [FiT P s i off t] [OnT P t] (hx:ev K x=some (.agg cs.toArray):=by rfl) (hc:cs[off]?=some v:=by rfl) :
  Does P w0 gs K L (.field s x i) ty v:=kK hx hc
theorem ax {t ty:TypeId} {z:Value} {zs:LV} [ZeT P t z] (hz:cellsOf z=zs:=by (first|(simp only[cellsOf,zk]<;>rfl)|rfl)) :
  se P w0 gs K L (.alloc t) ty (fun g=>.pointer (some ⟨g,0,none⟩)) t zs:=kI hz
theorem afs {t ty:TypeId} {x:Operand} {v:Value} {cs:LV} (hx:ev K x=some v:=by rfl) (hc:cellsOf v=cs:=by (first|(simp only[cellsOf,zk]<;>rfl)|rfl)) :
  se P w0 gs K L (.box t x) ty (fun g=>.pointer (some ⟨g,0,none⟩)) t cs:=e8 hx hc
theorem zo {t n g off t' : Nat} {x y:Operand} {ty:TypeId} {v:Value} {vs cs cs' : List Value} {L' : List Ent} [SzT P t n] (hx:ev K x=some (.pointer (some ⟨g,off,none⟩)):=by rfl)
  (hy:ev K y=some v:=by rfl) (hv:cellsOf v=vs:=by (first|(simp only[cellsOf,zk]<;>rfl)|rfl)) (hl:vs.length=n:=by rfl) (h1:vs.all Value.oneCell'=true:=by rfl) (hm:Hs L g t' cs:=by (repeat (first|exact Hs.here|apply Hs.there)))
  (hc:over cs off vs=cs':=by (first|(simp only[over,zk,zc,List.length_cons,List.length_nil,List.drop_succ_cons,List.drop_zero,List.take_succ_cons,List.take_zero,List.drop_nil,List.take_nil,List.cons_append,List.nil_append,List.append_nil,Nat.reduceAdd]<;>rfl)|rfl))
  (hr:Rp L g t' cs cs' L':=by (repeat (first|exact Rp.here|apply Rp.there))) (hle:Nat.ble (off+vs.length) cs.length=true:=by rfl) (ht:t'≠0:=by decide) :
  jO P w0 gs K L (.store t x y) ty L':=iJ hx hy hv hl h1 hr hc (Nat.le_of_ble_eq_true hle) ht
end
section
variable {P:Program} {w0:World} {gs:LN} {n:Nat} {ops:List Oper} {Q:Exit→Act→World→Prop} {K:List (Nat × Value)} {L:List Ent} {rest:List Oper}
variable {d:Nat} {op:Op} {ty:TypeId} {pos:String} {after:Array Edge} {gd:Option (Nat × Bool)}
theorem WO.acallV {f:FuncId} [Cal P f] {x:Operand} {xs:Array Operand} {ats:Array TypeId} {ak fs cs ak' : List Value} {R:World→Prop} {v:Value} (hx:ev K x=some (.func (.func f) fs.toArray cs.toArray):=by rfl) (ha:evs K xs.toList=some ak:=by rfl)
  (hh:fs++ak++cs=ak':=by rfl) (hc:Fn P f ak' R (Is v)) (hR:∀ w,Mr w0 gs L w→R w) (k:WO P w0 gs n ops Q ((d,v)::K) L rest)
  (hd:Nat.blt d n=true:=by rfl) (hw:wk ops K gd=some true:=by rfl) :
  WO P w0 gs n ops Q K L (⟨some d,.call { callee:=.value x,args:=xs,argTypes:=ats },ty,pos,after,gd⟩::rest) :=
 WO.calls hc hx ha hh hR (fun u N hu=>by
  cases hu;exact fun a w hdf hsz hk hme=>k a w hdf hsz hk (hme.sub (List.sublist_append_right _ _))) hd hw
theorem WO.acallR {f:FuncId} [Cal P f] {xs:Array Operand} {ats:Array TypeId} {ak:LV} {R:World→Prop} {v:Value} (ha:evs K xs.toList=some ak:=by rfl) (hc:Fn P f ak R (Is v)) (hR:∀ w,Mr w0 gs L w→R w) (k:WO P w0 gs n ops Q ((d,v)::K) L rest)
  (hd:Nat.blt d n=true:=by rfl) (hw:wk ops K gd=some true:=by rfl) :
  WO P w0 gs n ops Q K L (⟨some d,.call { callee:=.value (.func f),args:=xs,argTypes:=ats },ty,pos,after,gd⟩::rest):=WO.call hc ha hR k hd hw
theorem WO.acallX {f:FuncId} [Cal P f] {x:Operand} {xs:Array Operand} {ats:Array TypeId} {ak fs cs ak' : List Value} {R:World→Prop} {vf:(Nat→Nat)→Value} {Nf:(Nat→Nat)→List Ent} {S:(Nat→Nat)→Prop} (hx:ev K x=some (.func (.func f) fs.toArray cs.toArray):=by rfl) (ha:evs K xs.toList=some ak:=by rfl)
  (hh:fs++ak++cs=ak':=by rfl) (hc:Fn P f ak' R (Ex vf Nf S)) (hR:∀ w,Mr w0 gs L w→R w) (k:∀ x,S x→WO P w0 gs n ops Q ((d,vf x)::K) (Nf x++L) rest)
  (hd:Nat.blt d n=true:=by rfl) (hw:wk ops K gd=some true:=by rfl) :
  WO P w0 gs n ops Q K L (⟨some d,.call { callee:=.value x,args:=xs,argTypes:=ats },ty,pos,after,gd⟩::rest) :=
 WO.calls hc hx ha hh hR (fun u N ⟨x,e1,e2,e3⟩=>by subst e1;subst e2;exact k x e3) hd hw
theorem zn {t b off o n:Nat} {cs vs:LV} {x:Operand} {ty:TypeId} [AgT P t n] (hx:ev K x=some (.pointer (some ⟨b,o,none⟩)):=by rfl) (hs:Seg w0 b off cs:=by assumption) (hle:off≤o:=by omega)
  (hb:b ∉ gs:=by (first|(intro h;cases h;done)|assumption)) (hc:cut cs (o - off) n=vs:=by (first|(simp only[cut,zk,zc,Nat.sub_self,Nat.sub_zero,Nat.reduceSub,Nat.add_sub_cancel_left,List.drop_succ_cons,List.drop_zero,List.take_succ_cons,List.take_zero,List.drop_nil,List.take_nil]<;>rfl)|rfl)) (hl:vs.length=n:=by rfl) :
  Does P w0 gs K L (.load t x) ty (.agg vs.toArray):=by
 have e:o=off+(o - off):=by omega
 exact uj hs (by rw[hx,← e]) hb hc hl
theorem zm {t b off o:Nat} {cs:LV} {v:Value} {x:Operand} {ty:TypeId} [OnT P t] (hx:ev K x=some (.pointer (some ⟨b,o,none⟩)):=by rfl) (hs:Seg w0 b off cs:=by assumption) (hle:off≤o:=by omega)
  (hb:b ∉ gs:=by (first|(intro h;cases h;done)|assumption)) (hc:cs[o - off]?=some v:=by (first|rfl|assumption)):Does P w0 gs K L (.load t x) ty v:=by
 have e:o=off+(o - off):=by omega
 exact vP hs (by rw[hx,← e]) hb hc
end
section
variable {P:Program} {w0:World} {gs:LN} {n:Nat} {ops:List Oper} {Q:Exit→Act→World→Prop} {K:List (Nat × Value)} {L:List Ent} {rest:List Oper}
variable {d:Nat} {op:Op} {ty:TypeId} {pos:String} {after:Array Edge} {gd:Option (Nat × Bool)}
theorem WO.auto {v:Value} (h:Does P w0 gs K L op ty v:=by first
  | exact pg|exact zw|exact zx|exact zn|exact zm|exact yv|exact u6|exact tK|exact lL|exact kX|exact yo|exact vw|exact v8|exact uQ|exact tk|exact pQ|exact acK|exact acT|exact aeu
  | exact aeN|exact acS|exact adM|exact adR|exact adn|exact adC|exact cR|exact j9|exact bn|exact ap|exact bX|exact adH|exact mp|exact kq|exact p9|exact uy)
  (k:WO P w0 gs n ops Q ((d,v)::K) L rest) (hd:Nat.blt d n=true:=by rfl) (hw:wk ops K gd=some true:=by rfl):WO P w0 gs n ops Q K L (⟨some d,op,ty,pos,after,gd⟩::rest):=WO.does h k hd hw
theorem WO.autoM {v:Nat→Value} {t:TypeId} {cs:LV} (h:se P w0 gs K L op ty v t cs:=by first|exact afs|exact ax)
  (k:∀ g,WO P w0 gs n ops Q ((d,v g)::K) (⟨g,t,cs⟩::L) rest) (hd:Nat.blt d n=true:=by rfl) (hw:wk ops K gd=some true:=by rfl):WO P w0 gs n ops Q K L (⟨some d,op,ty,pos,after,gd⟩::rest):=WO.makes h k hd hw
theorem WO.autoS {L' : List Ent} (h:jO P w0 gs K L op ty L':=by exact zo) (k:WO P w0 gs n ops Q K L' rest) (hw:wk ops K gd=some true:=by rfl):WO P w0 gs n ops Q K L (⟨none,op,ty,pos,after,gd⟩::rest):=WO.stores h k hw
theorem WO.acall {f:FuncId} [Cal P f] {xs:Array Operand} {ats:Array TypeId} {ak:LV} {v:Value} (ha:evs K xs.toList=some ak:=by rfl) (hc:Fn P f ak Tr (Is v)) (k:WO P w0 gs n ops Q ((d,v)::K) L rest)
  (hd:Nat.blt d n=true:=by rfl) (hw:wk ops K gd=some true:=by rfl) :
  WO P w0 gs n ops Q K L (⟨some d,.call { callee:=.value (.func f),args:=xs,argTypes:=ats },ty,pos,after,gd⟩::rest):=WO.call hc ha (fun _ _=>trivial) k hd hw
theorem WC.dT {c:Operand} {x y:Code} {p:Prop} [Decidable p] (hc:ev K c=some (.bool (decide p))) (hp:p) (k:WC P w0 gs n x Q K L):WC P w0 gs n (.cond c x y) Q K L:=WC.condT (by rw[hc,decide_eq_true hp]) k
theorem WC.dF {c:Operand} {x y:Code} {p:Prop} [Decidable p] (hc:ev K c=some (.bool (decide p))) (hp:¬ p) (k:WC P w0 gs n y Q K L):WC P w0 gs n (.cond c x y) Q K L:=WC.condF (by rw[hc,decide_eq_false hp]) k
theorem WO.eqv {t:Nat} {u v:Value} (h:u=v) (k:WO P w0 gs n ops Q ((t,v)::K) L rest):WO P w0 gs n ops Q ((t,u)::K) L rest:=h ▸ k
theorem vF {p t g off t' n:Nat} {cs vs:LV} [AgT P t n] (hx:lk K p=some (.pointer (some ⟨g,off,none⟩)):=by rfl) (hm:Hs L g t' cs:=by (repeat (first|exact Hs.here|apply Hs.there)))
  (hc:cut cs off n=vs:=by (first|(simp only[cut,zk,zc,List.drop_succ_cons,List.drop_zero,List.take_succ_cons,List.take_zero,List.drop_nil,List.take_nil]<;>rfl)|rfl)) (hl:vs.length=n:=by rfl):Rv P w0 gs K L (.cell p t) (.agg vs.toArray):=zW hx hm hc hl
theorem po {p t g off t' : Nat} {cs:LV} {v:Value} [OnT P t] (hx:lk K p=some (.pointer (some ⟨g,off,none⟩)):=by rfl) (hm:Hs L g t' cs:=by (repeat (first|exact Hs.here|apply Hs.there))) (hc:cs[off]?=some v:=by rfl):Rv P w0 gs K L (.cell p t) v:=tJ hx hm hc
theorem WX.aret1 {fn:Func} {post:Value→List Ent→Prop} {v:Value} {r:ResultVar} (hfn:fn.results=#[r]:=by rfl) (hr:Rv P w0 [] K L r v:=by first|exact zK rfl|exact vF|exact po) (hp:post v []) :
  WX w0 [] n .ret (bodyPost P fn (uw w0 post)) K L:=WX.ret1 hfn hr [] trivial hp
theorem WX.aret2 {fn:Func} {post:Value→List Ent→Prop} {v1 v2:Value} {r1 r2:ResultVar} (hfn:fn.results=#[r1,r2]:=by rfl) (hr1:Rv P w0 [] K L r1 v1:=by first|exact zK rfl|exact vF|exact po) (hr2:Rv P w0 [] K L r2 v2:=by first|exact zK rfl|exact vF|exact po) (hp:post (.tuple #[v1,v2]) []) :
  WX w0 [] n .ret (bodyPost P fn (uw w0 post)) K L:=WX.ret2 hfn hr1 hr2 [] trivial hp
theorem WX.aret3 {fn:Func} {post:Value→List Ent→Prop} {v1 v2 v3:Value} {r1 r2 r3:ResultVar} (hfn:fn.results=#[r1,r2,r3]:=by rfl) (hr1:Rv P w0 [] K L r1 v1:=by first|exact zK rfl|exact vF|exact po) (hr2:Rv P w0 [] K L r2 v2:=by first|exact zK rfl|exact vF|exact po) (hr3:Rv P w0 [] K L r3 v3:=by first|exact zK rfl|exact vF|exact po) (hp:post (.tuple #[v1,v2,v3]) []) :
  WX w0 [] n .ret (bodyPost P fn (uw w0 post)) K L:=WX.ret3 hfn hr1 hr2 hr3 [] trivial hp
end
section
open Kp
variable {P:Program} {w0:World} {gs:LN} {n:Nat} {fl:LN} {Q:Exit→Act→World→Prop} {ops:List Oper} {L0:List Ent}
variable {tail rest:List Oper} {i:Nat} {C:zT→Prop} {K:zT→List (Nat × Value)} {N:zT→List (Nat × Ent)}
variable {d:Nat} {op:Op} {ty:TypeId} {pos:String} {after:Array Edge} {gd:Option (Nat × Bool)}
theorem DQ.auto {v:zT→Value} (hv:∀ s,C s→Does P w0 gs (K s) L0 op ty (v s):=by (intro s _;first
  | exact pg|exact zw|exact zx|exact zn|exact zm|exact yv|exact u6|exact tK|exact lL|exact kX|exact yo|exact vw|exact v8|exact uQ|exact tk|exact pQ|exact acK|exact acT|exact aeu
  | exact aeN|exact acS|exact adM|exact adR|exact adn|exact adC|exact cR|exact j9|exact bn|exact ap|exact bX|exact adH|exact mp|exact kq|exact p9|exact uy)) (dep:Dp ops i v:=by first|exact Dp.const|(intro s s' h;(try dsimp only);first|rfl|(rw[h]<;>decide +kernel)|(rw[h,h]<;>decide +kernel)|(rw[h,h,h]<;>decide +kernel)|(rw[h,h,h,h]<;>decide +kernel)))
  (k:DQ P w0 gs n fl Q ops L0 tail (i+1) rest C (fun s=>(d,v s)::K s) N) (hfl:fl.contains i=false:=by rfl) (hw:∀ s,wk ops (K s) gd=some true:=by intro _;rfl) (hd:Nat.blt d n=true:=by rfl) :
  DQ P w0 gs n fl Q ops L0 tail i (⟨some d,op,ty,pos,after,gd⟩::rest) C K N:=DQ.does hv dep k hfl hw hd
theorem DQ.autoF {v:zT→Value} (hv:∀ s,C s→∀ w0 gs,Does P w0 gs (K s) [] op ty (v s):=by (intro s _ _ _;first
  | exact pg|exact zw|exact zx|exact zn|exact zm|exact yv|exact u6|exact tK|exact lL|exact kX|exact yo|exact vw|exact v8|exact uQ|exact tk|exact pQ|exact acK|exact acT|exact aeu
  | exact aeN|exact acS|exact adM|exact adR|exact adn|exact adC|exact cR|exact j9|exact bn|exact ap|exact bX|exact adH|exact mp|exact kq|exact p9|exact uy)) (dep:Dp ops i v:=by first|exact Dp.const|(intro s s' h;(try dsimp only);first|rfl|(rw[h]<;>decide +kernel)|(rw[h,h]<;>decide +kernel)|(rw[h,h,h]<;>decide +kernel)|(rw[h,h,h,h]<;>decide +kernel)))
  (k:DQ P w0 gs n fl Q ops L0 tail (i+1) rest C (fun s=>(d,v s)::K s) N) (hw:∀ s,wk ops (K s) gd=some true:=by intro _;rfl) (hd:Nat.blt d n=true:=by rfl) :
  DQ P w0 gs n fl Q ops L0 tail i (⟨some d,op,ty,pos,after,gd⟩::rest) C K N:=DQ.free hv dep k hw hd
theorem DQ.autoM {vf:zT→Nat→Value} {t:TypeId} {cs:zT→List Value} (hv:∀ s,C s→se P w0 gs (K s) L0 op ty (vf s) t (cs s):=by (intro s _;first|exact afs|exact ax)) (dep:Dp ops i vf:=by first|exact Dp.const|(intro s s' h;(try dsimp only);first|rfl|(rw[h]<;>decide +kernel)|(rw[h,h]<;>decide +kernel)|(rw[h,h,h]<;>decide +kernel)|(rw[h,h,h,h]<;>decide +kernel))) (depN:Dp ops i cs:=by first|exact Dp.const|(intro s s' h;(try dsimp only);first|rfl|(rw[h]<;>decide +kernel)|(rw[h,h]<;>decide +kernel)|(rw[h,h,h]<;>decide +kernel)|(rw[h,h,h,h]<;>decide +kernel)))
  (k:DQ P w0 gs n fl Q ops L0 tail (i+1) rest C (fun s=>(d,vf s (s i 0))::K s) (fun s=>(i,⟨s i 0,t,cs s⟩)::N s)) (hfl:fl.contains i=false:=by rfl) (hw:∀ s,wk ops (K s) gd=some true:=by intro _;rfl) (hd:Nat.blt d n=true:=by rfl) :
  DQ P w0 gs n fl Q ops L0 tail i (⟨some d,op,ty,pos,after,gd⟩::rest) C K N:=DQ.makes hv dep depN k hfl hw hd
theorem DQ.acall {f:FuncId} [Cal P f] {xs:Array Operand} {ats:Array TypeId} {ak:LV} {v:Value} (ha:∀ s,evs (K s) xs.toList=some ak:=by (intro s;rfl)) (hc:Fn P f ak Tr (Is v))
  (k:DQ P w0 gs n fl Q ops L0 tail (i+1) rest C (fun s=>(d,v)::K s) N) (hfl:fl.contains i=false:=by rfl) (hw:∀ s,wk ops (K s) gd=some true:=by intro _;rfl) (hd:Nat.blt d n=true:=by rfl) :
  DQ P w0 gs n fl Q ops L0 tail i (⟨some d,.call { callee:=.value (.func f),args:=xs,argTypes:=ats },ty,pos,after,gd⟩::rest) C K N :=
 DQ.call (ak:=fun _=>ak) (R:=fun _=>Tr) (v:=fun _=>v) (fun _ _=>hc) ha (fun _ _ _ _=>trivial) Dp.const k hfl hw hd
theorem DQ.anil {L' : zT→List Ent} (hL:∀ s,(N s).map Prod.snd++L0=L' s:=by (intro s;(first|(simp only[List.map_cons,List.map_nil,List.cons_append,List.nil_append]<;>rfl)|rfl))) (k:∀ s,C s→WO P w0 gs n ops Q (K s) (L' s) tail):DQ P w0 gs n fl Q ops L0 tail i [] C K N :=
 DQ.nil (fun s hC=>by rw[hL s];exact k s hC)
theorem WC.adraw {K:List (Nat × Value)} {L:List Ent} {id:Nat} {l hd tl:List Oper} [Mix P] (h:Nat) (k:DQ P w0 gs n [] Q l L tl 0 hd (fun _=>True) (fun _=>K) (fun _=>[]))
  (h1:l.take h=hd:=by (simp only[List.take_succ_cons,List.take_zero]<;>rfl)) (h2:l.drop h=tl:=by (simp only[List.drop_succ_cons,List.drop_zero]<;>rfl)) (hB:yL l [] h=true:=by decide +kernel):WC P w0 gs n (.region id l.toArray true) Q K L:=WC.draw h hB h1 h2 k
theorem WC.adrawF {K:List (Nat × Value)} {L:List Ent} {id:Nat} {l hd tl:List Oper} [Mix P] (fl:LN) (h:Nat) (k:DQ P w0 gs n fl (NoPanic Q) l L tl 0 hd (fun _=>True) (fun _=>K) (fun _=>[]))
  (h1:l.take h=hd:=by (simp only[List.take_succ_cons,List.take_zero]<;>rfl)) (h2:l.drop h=tl:=by (simp only[List.drop_succ_cons,List.drop_zero]<;>rfl)) (hB:yL l fl h=true:=by decide +kernel):WC P w0 gs n (.region id l.toArray true) Q K L:=WC.drawF fl h hB h1 h2 k
end
abbrev pt (g:Nat):Value:=.pointer (some ⟨g,0,none⟩)
section
variable {P:Program} {w0:World} {gs:LN} {n:Nat} {ops:List Oper} {Q:Exit→Act→World→Prop} {K:List (Nat × Value)} {L:List Ent}
theorem Kle.nil:Kle [] K:=trivial
theorem Kle.cons {t:Nat} {u v:Value} {r:List (Nat × Value)} (h:lk K t=some u) (e:u=v) (hr:Kle r K):Kle ((t,v)::r) K:=⟨⟨u,h,e⟩,hr⟩
theorem Lle.nil:Lle [] L:=trivial
theorem Lle.cons {g t:Nat} {cs cs' : List Value} {L' r:List Ent} (h:Pk L g t cs L') (e:cs=cs') (hr:Lle r L'):Lle (⟨g,t,cs'⟩::r) L:=⟨cs,L',h,e,hr⟩
theorem Kle.a {K A:List (Nat × Value)} (h:Kle A K:=by repeat (first|exact Kle.nil|refine Kle.cons rfl rfl ?_)):Kle A K:=h
theorem Lle.c {g t:Nat} {cs cs' : List Value} {L' r:List Ent} (hr:Lle r L') (h:Pk L g t cs L':=by repeat (first|exact Pk.here|apply Pk.there)) (e:cs=cs':=by rfl):Lle (⟨g,t,cs'⟩::r) L:=Lle.cons h e hr
theorem WC.loopI {σ:Type} {c:Code} (ok:σ→Prop) (Ks:σ→List (Nat × Value)) (Ls:σ→List Ent) (μ:σ→Nat) (s0:σ)
  (k:∀ s,ok s→WC P w0 gs n c (Exit.then (Met w0 gs n Ks Ls (fun s'=>ok s'∧μ s' < μ s)) Q) (Ks s) (Ls s)) (h0:ok s0)
  (hk:Kle (Ks s0) K:=by (repeat (first|exact Kle.nil|refine Kle.cons rfl rfl ?_)))
  (hl:Lle (Ls s0) L:=by (repeat (first|exact Lle.nil|refine Lle.c ?_))):WC P w0 gs n (.loop c) Q K L:=fun a w h1 h2 h3 h4 =>
 wp_loop_ghost (fun m a w=>∃ s,μ s=m∧ok s∧a.defers=[]∧a.tmps.size=n∧Kn (Ks s) a∧Me w0 gs (Ls s) w) (μ s0) ⟨s0,rfl,h0,h1,h2,hk.kn h3,hl.me h4⟩ (fun m a w ⟨s,hm,hok,g1,g2,g3,g4⟩=>by
  refine wp_mono (k s hok a w g1 g2 g3 g4) (fun e a w hq=>?_);cases e with
  | normal=>obtain⟨s',⟨hok',hlt⟩,g⟩:=hq;exact⟨μ s',by omega,s',rfl,hok',g⟩
  | _=>exact hq)
theorem WX.metI {σ:Type} {Ks:σ→List (Nat × Value)} {Ls:σ→List Ent} {ok:σ→Prop} (s:σ)
  (hk:Kle (Ks s) K:=by (repeat (first|exact Kle.nil|refine Kle.cons rfl rfl ?_)))
  (hl:Lle (Ls s) L:=by (repeat (first|exact Lle.nil|refine Lle.c ?_))) (hs:ok s):WX w0 gs n .normal (Exit.then (Met w0 gs n Ks Ls ok) Q) K L :=
 WX.met s hs hk hl
end
theorem Hs.seg {w0 w:World} {gs:LN} {L:List Ent} {g t:Nat} {cs:LV} (h:Hs L g t cs) (hm:Mr w0 gs L w):Seg w g 0 cs:=by
 have:=(hm.ok _ h.mem).seg 0;simpa using this
theorem Hs.sg {w0 w:World} {gs:LN} {L:List Ent} {g t:Nat} {cs:LV} (hm:Mr w0 gs L w) (h:Hs L g t cs:=by repeat (first|exact Hs.here|apply Hs.there)):Seg w g 0 cs:=h.seg hm
def zX (R:World→Prop):Prop:=∀ w w',R w→Below w.heap.size w w'→R w'
theorem zX.tr:zX Tr:=fun _ _ _ _=>trivial
theorem zX.seg {b off:Nat} {cs:LV}:zX (fun w=>Seg w b off cs):=fun _ _ h hb=>h.mod (.of_below hb []) Sm
section
open Kp
variable {P:Program} {w0:World} {gs:LN} {n:Nat} {fl:LN} {Q:Exit→Act→World→Prop} {ops:List Oper} {L0:List Ent}
variable {tail rest:List Oper} {i:Nat} {C:zT→Prop} {K:zT→List (Nat × Value)} {N:zT→List (Nat × Ent)}
variable {d:Nat} {op:Op} {ty:TypeId} {pos:String} {after:Array Edge} {gd:Option (Nat × Bool)}
theorem DQ.acallR {f:FuncId} [Cal P f] {xs:Array Operand} {ats:Array TypeId} {ak:LV} {R:World→Prop} {v:Value} (ha:∀ s,evs (K s) xs.toList=some ak:=by (intro s;rfl)) (hc:Fn P f ak R (Is v)) (hR:∀ w,Mr w0 gs L0 w→R w)
  (k:DQ P w0 gs n fl Q ops L0 tail (i+1) rest C (fun s=>(d,v)::K s) N) (hfl:fl.contains i=false:=by rfl) (hw:∀ s,wk ops (K s) gd=some true:=by intro _;rfl) (hd:Nat.blt d n=true:=by rfl) :
  DQ P w0 gs n fl Q ops L0 tail i (⟨some d,.call { callee:=.value (.func f),args:=xs,argTypes:=ats },ty,pos,after,gd⟩::rest) C K N :=
 DQ.call (ak:=fun _=>ak) (R:=fun _=>R) (v:=fun _=>v) (fun _ _=>hc) ha (fun _ _ w hm=>hR w hm) Dp.const k hfl hw hd
end
end Sx
end
section
open Go Go.RowKit Go.BigFrame
namespace Sx
open Kp
section
variable {P:Program} {w0:World} {gs:LN} {n:Nat} {ops:List Oper} {Q:Exit→Act→World→Prop} {K:List (Nat × Value)} {L:List Ent} {rest:List Oper} {d:Nat}
theorem WO.decT {p:Prop} {ip:Decidable p} (h:p:=by first|assumption|omega) (k:WO P w0 gs n ops Q ((d,.bool true)::K) L rest):WO P w0 gs n ops Q ((d,.bool (@decide p ip))::K) L rest:=by
 rw[decide_eq_true h];exact k
theorem WO.decF {p:Prop} {ip:Decidable p} (h:¬ p:=by first|assumption|omega) (k:WO P w0 gs n ops Q ((d,.bool false)::K) L rest):WO P w0 gs n ops Q ((d,.bool (@decide p ip))::K) L rest:=by
 rw[decide_eq_false h];exact k
end
section
variable {P:Program} {w0:World} {gs:LN} {n:Nat} {fl:LN} {hl:List (Nat × List Ent)} {Q:Exit→Act→World→Prop} {ops:List Oper} {L0:List Ent}
variable {tail rest:List Oper} {nh i:Nat} {C:zT→Prop} {K:zT→List (Nat × Value)} {N:zT→List (Nat × Ent)} {d:Nat}
theorem DQ.decT {p:Prop} {ip:Decidable p} (h:p:=by first|assumption|omega) (k:DQ P w0 gs n fl Q ops L0 tail i rest C (fun s=>(d,.bool true)::K s) N):DQ P w0 gs n fl Q ops L0 tail i rest C (fun s=>(d,.bool (@decide p ip))::K s) N:=by
 rw[decide_eq_true h];exact k
theorem DQ.decF {p:Prop} {ip:Decidable p} (h:¬ p:=by first|assumption|omega) (k:DQ P w0 gs n fl Q ops L0 tail i rest C (fun s=>(d,.bool false)::K s) N):DQ P w0 gs n fl Q ops L0 tail i rest C (fun s=>(d,.bool (@decide p ip))::K s) N:=by
 rw[decide_eq_false h];exact k
end
section
variable {p q:Prop}
theorem Ta (k:p) (h:p→q:=by first|exact WO.nil|exact fun k=>WO.skip k|exact WX.seq|exact WC.seq|exact WC.region|exact fun k=>WO.autoS (k:=k)):q:=h k
theorem Td (k:p) (h:p→q:=by first|exact WO.nil|exact fun k=>WO.decT (k:=k)|exact fun k=>WO.decF (k:=k)|exact fun k=>WO.skip k|exact WX.seq|exact WC.seq|exact WC.region|exact fun k=>WO.autoS (k:=k)):q:=h k
theorem Tm (k:p) (h:p→q:=by exact fun k=>WO.autoM (k:=k)):q:=h k
theorem Tb (k:p) (h:p→q:=by first|exact fun k=>WO.auto (k:=k)|exact WC.ret|exact WC.skip|exact WX.then_ret|exact WX.noPanic|exact WX.blk_normal|exact WX.blk_ret|exact WX.then_exit|exact WX.blk_exit|exact WX.blk_pass rfl|exact WC.exit|exact WC.block|exact WC.scope|exact WX.scp_normal|exact WX.scp_ret|exact WX.scp_exit|exact WC.label|exact WC.condT rfl|exact WC.condF rfl):q:=h k
theorem Tz (h:q:=by first|exact WX.aret1 (hp:=rfl)|exact WX.aret2 (hp:=rfl)|exact WX.aret3 (hp:=rfl)):q:=h
theorem Da (k:p) (h:p→q:=by first|exact fun k=>DQ.skip k|exact fun k=>DQ.autoM (k:=k)):q:=h k
end
end Sx
end
section
open Go Go.RowKit Go.BigFrame
namespace Sx
class ElT (P:Program) (e:TypeId) (bytes:outParam Nat) (z:outParam (List Value)):Prop where
 info:∃ i,P.info? e=some i∧i.bytes=bytes∧i.size=z.length∧∃ v,i.zero=some v∧v.cells=z.toArray
theorem ElT.bytes {P:Program} {e b:Nat} {z:LV} [h:ElT P e b z] (w:World):∃ i,(typeInfo e).run P w=.ok i w∧i.bytes=b∧i.size=z.length∧∃ v,i.zero=some v∧v.cells=z.toArray:=by
 obtain⟨i,h1,h2⟩:=h.info;exact⟨i,by simp[typeInfo,h1],h2⟩
theorem ElT.zero {P:Program} {e b:Nat} {z:LV} [h:ElT P e b z] (w:World):∃ v,(zeroValue e).run P w=.ok v w∧v.cells=z.toArray:=by
 obtain⟨i,h1,h2,h3,v,h4,h5⟩:=h.info;exact⟨v,by simp[zeroValue,typeInfo,h1,h4],h5⟩
def mkz (n:Nat) (z:LV):List Value:=(List.replicate n z).flatten
theorem zV (n:Nat) (z:LV):(mkz n z).length=n*z.length:=by
 unfold mkz;simp
theorem adp {z:LV} {n i:Nat} (h:i<n*z.length):(mkz n z)[i]?=z[i%z.length]?:=by
 induction n generalizing i with
 | zero=>simp at h
 | succ n ih =>
  unfold mkz;rw[List.replicate_succ,List.flatten_cons]
  by_cases hi:i<z.length
  ·rw[List.getElem?_append_left hi,Nat.mod_eq_of_lt hi]
  ·rw[List.getElem?_append_right Om];have:=ih (i:=i - z.length) (by rw[Nat.add_mul,Nat.one_mul] at h;omega);unfold mkz at this;rw[this,show i%z.length=(i - z.length)%z.length from Nat.mod_eq_sub_mod Om]
theorem jh (n:Nat) (z:LV):((Array.range (n*z.length)).map (fun i=>z.toArray[i%z.toArray.size]!))=(mkz n z).toArray:=by
 apply Array.ext';apply List.ext_getElem?;intro i;simp only[Array.toList_map,Array.toList_range,List.getElem?_map]
 by_cases h:i<n*z.length
 ·rw[adp h,List.getElem?_range h];have hz:0<z.length:=by
   rcases Nat.eq_zero_or_pos z.length with h0|h0
   ·rw[h0] at h;simp at h
   ·exact h0
  have hm:=Nat.mod_lt i hz;simp[hm]
 ·have h1:(mkz n z)[i]?=none:=List.getElem?_eq_none (by rw[zV];omega);rw[h1];have:(List.range (n*z.length))[i]?=none:=List.getElem?_eq_none (by simp;omega);rw[this];rfl
theorem qV (f:Nat→Value):(Array.range 0).map f=#[]:=by apply Array.ext';simp
theorem rR (n:Nat) (v:Value):mkz n [v]=List.replicate n v:=by
 unfold mkz
 induction n with
 | zero=>rfl
 | succ n ih=>rw[List.replicate_succ,List.flatten_cons,ih,List.replicate_succ];rfl
section
variable {P:Program} {w0:World} {gs:LN} {K:List (Nat × Value)} {L:List Ent}
theorem yp {t e size b ty:Nat} {z:LV} {x y:Operand} {k k' : IntKind} {l c:Nat} [SlT P t e size] [ElT P e b z] (hx:ev K x=some (.int k (l:Int))) (hy:ev K y=some (.int k' (c:Int))) (hlc:l≤c) (hb:b*c≤281474976710656) (hc:c≤9223372036854775807) :
  se P w0 gs K L (.makeSlice t x y) ty (fun g=>.slice (some ⟨g,0,none⟩) l c) e (mkz c z):=by
 intro a w hk _ o ho _;have hu:∀ w,(underlying t).run P w=.ok (.slice e) w:=fun w=>by simp[underlying,SlT.under (P:=P) (t:=t)]
 obtain⟨i,h1,h2,h3,v,h4,h5⟩:=ElT.bytes (P:=P) (e:=e) w;obtain⟨v',h6,h7⟩:=ElT.zero (P:=P) (e:=e) w;have hsz:(sizeOf e).run P w=.ok z.length w:=by simp[sizeOf,h1,h3]
 have wl:IntKind.i64.wrap (l:Int)=l:=i64_in Om Om;have wc:IntKind.i64.wrap (c:Int)=c:=i64_in Om Om;have hbc:((b:Int)*(c:Int))≤281474976710656:=by have h:=Int.ofNat_le.2 hb;rw[Int.natCast_mul] at h;exact h
 have e1:¬ ((c:Int)<0):=by omega
 have e2:¬ (((b:Nat):Int)*(c:Int) > 2 ^ 48):=by
  have h48:(2:Int) ^ 48=281474976710656:=rfl;rw[h48];exact Int.not_lt.2 hbc
 have e3:¬ ((l:Int)<0):=by omega
 have e4:¬ ((l:Int) > (c:Int)):=by omega
 simp only[execOp,ho,hk.eval hx,hk.eval hy,Instr.makeSlice,Sem.run_bind,hu,Result.andThen_ok,asInt,asIntOf,Sem.run_pure,h1,h2,wl,wc];simp only[e1,e2,e3,e4,decide_false,Bool.or_self,Bool.false_eq_true,if_false,run_askRoom,Result.andThen_ok,hsz,Sem.run_bind,Int.toNat_natCast]
 by_cases h0:c*z.length=0
 ·have:mkz c z=[]:=List.eq_nil_of_length_eq_zero (by rw[zV];exact h0);rw[this];simp[h0,newRow,qV]
 ·rw[if_neg h0];simp only[Sem.run_bind,h6,Result.andThen_ok,Sem.run_pure,h7,jh,newRow,run_newObj];rfl
theorem zh {t e size b ty len:Nat} {z cs:LV} {xs:Array (Nat × Operand)} {vs:List (Nat × Value)} [SlT P t e size] [ElT P e b z] (h1:evp K xs.toList=some vs) (hl:len*z.length≤16777216) (h2:ui (fun i=>some (i*z.length,z.length)) (mkz len z) vs=some cs) :
  se P w0 gs K L (.buildSlice t len xs) ty (fun g=>.slice (some ⟨g,0,none⟩) len len) e cs:=by
 intro a w hk _ o ho _;have hu:∀ w,(underlying t).run P w=.ok (.slice e) w:=fun w=>by simp[underlying,SlT.under (P:=P) (t:=t)]
 obtain⟨i,g1,g2,g3,v,g4,g5⟩:=ElT.bytes (P:=P) (e:=e) w;obtain⟨v',g6,g7⟩:=ElT.zero (P:=P) (e:=e) w;have hsz:(sizeOf e).run P w=.ok z.length w:=by simp[sizeOf,g1,g3]
 have ee:=hk.evp h1;have e' : (xs.map fun (i,x)=>(i,a.eval x)).toList=vs:=by simpa using ee
 have hf:=ni (place':=fun i=>some (i*z.length,z.length)) (fun i=>rfl) vs (mkz len z) cs h2;have e3:¬ (len*z.length > 2 ^ 24):=by omega
 simp only[execOp,ho,Instr.buildSlice,Sem.run_bind,hu,Result.andThen_ok,hsz];rw[if_neg e3]
 by_cases h0:len*z.length=0
 ·have hm:mkz len z=[]:=List.eq_nil_of_length_eq_zero (by rw[zV];exact h0);rw[hm] at hf;rw[if_pos h0];simp only[Sem.run_bind,Sem.run_pure,Result.andThen_ok,h0];rw[qV,e',hf];rfl
 ·rw[if_neg h0];simp only[Sem.run_bind,g6,Result.andThen_ok,Sem.run_pure,g7,jh,e',hf,newRow,run_newObj];rfl
end
def Rds (w0:World) (gs:LN) (L:List Ent) (v:Value) (n:Nat) (xs:LV):Prop :=
 ∃ p c,v=.slice p n c∧((p=none∧n=0∧xs=[])∨∃ b o,p=some ⟨b,o,none⟩∧∀ w,Mr w0 gs L w→∀ (i:Nat) x,xs[i]?=some x→w.cell? ⟨b,o+i,none⟩=some x)
section
variable {P:Program} {w0:World} {gs:LN} {K:List (Nat × Value)} {L:List Ent}
theorem Rds.nil {c:Nat}:Rds w0 gs L (.slice none 0 c) 0 []:=⟨none,c,rfl,.inl ⟨rfl,rfl,rfl⟩⟩
theorem Rds.own {g o t n c m:Nat} {cs xs:LV} (hm:Hs L g t cs) (hc:cut cs o m=xs):Rds w0 gs L (.slice (some ⟨g,o,none⟩) n c) n xs :=
 ⟨_,c,rfl,.inr ⟨g,o,rfl,fun w hme i x hx=>by rw[(hme.ok _ hm.mem).cell];exact vb hc hx⟩⟩
theorem Rds.seg {b off o n c m:Nat} {cs xs:LV} (hs:Seg w0 b off cs) (hle:off≤o) (hb:b ∉ gs) (hc:cut cs (o - off) m=xs):Rds w0 gs L (.slice (some ⟨b,o,none⟩) n c) n xs :=
 ⟨_,c,rfl,.inr ⟨b,o,rfl,fun w hme i x hx=>by
  have:=hs.mod hme.mod hb _ x (vb hc hx);rwa [show off+(o - off+i)=o+i by omega] at this⟩⟩
theorem Rds.first {v:Value} {n size:Nat} {xs:LV} (h:Rds w0 gs L v n xs) (hl:xs.length=n*size) {w:World} (hm:Mr w0 gs L w):(Builtin.firstCells size n v).run P w=.ok xs.toArray w:=by
 obtain⟨p,c,rfl,⟨rfl,rfl,rfl⟩|⟨b,o,rfl,hr⟩⟩:=h
 ·rfl
 ·show (loadCells ⟨b,o,none⟩ (n*size)).run P w=_;rw[← hl];exact run_loadCells_list (P:=P) w ⟨b,o,none⟩ xs (fun j v hj=>by rw[vS];exact hr w hm j v hj)
theorem Rds.take {v:Value} {n m size:Nat} {xs:LV} (h:Rds w0 gs L v n xs) (hm' : m≤n) (hl:xs.length=n*size) {w:World} (hm:Mr w0 gs L w):(Builtin.firstCells size m v).run P w=.ok (xs.take (m*size)).toArray w:=by
 obtain⟨p,c,rfl,⟨rfl,rfl,rfl⟩|⟨b,o,rfl,hr⟩⟩:=h
 ·simp[Builtin.firstCells]
 ·have hms:m*size≤n*size:=Nat.mul_le_mul_right _ hm';have hle:(xs.take (m*size)).length=m*size:=by rw[List.length_take];omega
  have:=run_loadCells_list (P:=P) w ⟨b,o,none⟩ (xs.take (m*size)) (fun j v hj=>by
   rw[vS];rw[List.getElem?_take] at hj
   split at hj
   ·exact hr w hm j v hj
   ·cases hj)
  rw[hle] at this;exact this
theorem Rds.len {v:Value} {n:Nat} {xs:LV} (h:Rds w0 gs L v n xs) (w:World):(Builtin.lenOf v).run P w=.ok n w:=by
 obtain⟨p,c,rfl,_⟩:=h;rfl
theorem yV {b:Builtin} {xs:Array Operand} {ats:Array TypeId} {ak:LV} {a:Act} {ty:TypeId} {pos:String} {after:Array Edge} {gd:Option (Nat × Bool)} {dst:Option Tmp} (hk:Kn K a) (ha:evs K xs.toList=some ak) :
  execOp a.eval ⟨dst,.call { callee:=.builtin b,args:=xs,argTypes:=ats },ty,pos,after,gd⟩=builtin b ats ty (xs.map fun|.const _=>true|_=>false) ak.toArray:=by
 have e1:xs.map a.eval=ak.toArray:=by have h:=hk.evals ha;apply Array.ext';simpa using h
 rw[execOp_builtin,e1];rfl
theorem rj {st xt ty e size bts g t len cap n:Nat} {z cs xs cs' : List Value} {x y:Operand} {s v:Value} {L' : List Ent} [SlT P st e size] [SlT P xt e size] [ElT P e bts z] (hx:ev K x=some (.slice (some ⟨g,0,none⟩) len cap)) (hy:ev K y=some v)
  (hr:Rds w0 gs L v n xs) (hxl:xs.length=n*z.length) (hroom:len+n≤cap) (h1:xs.all Value.oneCell'=true) (hrp:Rp L g t cs cs' L') (hc:over cs (len*z.length) xs=cs') (hle:len*z.length+xs.length≤cs.length) (hs:size=z.length) (ht:t≠0) :
  ∀ a w,Kn K a→Me w0 gs L w→∀ o:Oper,o.op=.call { callee:=.builtin .append,args:=#[x,y],argTypes:=#[st,xt] }→o.type=ty →
   ∃ w',(execOp a.eval o).run P w=.ok (.value (.slice (some ⟨g,0,none⟩) (len+n) cap)) w'∧Me w0 gs L' w':=by
 intro a w hk hme o ho hty;obtain⟨dst,op,ty',pos,after,guard⟩:=o;subst ho;subst hc;have hok:=(hme.ok _ hrp.mem).row ht;have hu:∀ w,(underlying st).run P w=.ok (.slice e) w:=fun w=>by simp[underlying,SlT.under (P:=P) (t:=st)]
 have hu2:∀ w,(underlying xt).run P w=.ok (.slice e) w:=fun w=>by simp[underlying,SlT.under (P:=P) (t:=xt)]
 obtain⟨i,g1,g2,g3,_⟩:=ElT.bytes (P:=P) (e:=e) w;have hsz:∀ w,(sizeOf e).run P w=.ok size w:=SlT.size (P:=P) (t:=st);obtain⟨w',e1,e2,e3,e4,e5,e6,e7⟩:=vm (P:=P) (t:=t) g xs (len*z.length) 0 cs w Om (fun u hu=>List.all_eq_true.1 h1 u hu) hok;refine⟨w',?_,hme.write hrp e2 e3 e4 Om (fun k _ hk=>e6 k hk) e7⟩;rw[yV hk (ak:=[.slice (some ⟨g,0,none⟩) len cap,v]) (by simp[evs,hx,hy]),builtin_append];subst hs;simp only[Sem.run_bind,Builtin.append_,List.getElem?_toArray,List.getElem?_cons_zero,List.getElem?_cons_succ,hu,Result.andThen_ok,hsz,hu2,Sem.run_pure,hr.len,Bool.false_eq_true,if_false];rw[if_pos hroom];simp only[Bool.not_false,if_true,Sem.run_bind,hr.first hxl hme.mr,Result.andThen_ok,Bool.false_eq_true,if_false,vS,Nat.zero_add,e1,Sem.run_pure]
end
end Sx
end
section
open Go Go.RowKit Go.BigFrame
namespace Sx
open Kp
end Sx
end
end Go.Proofs.YtiaibpcaloigkaaGreatDoor
