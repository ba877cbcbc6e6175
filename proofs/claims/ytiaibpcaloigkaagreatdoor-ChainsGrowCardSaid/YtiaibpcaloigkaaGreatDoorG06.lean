/- Part 6 of the proof. -/
import Derived.Test.YtiaibpcaloigkaaGreatDoorG04
import Derived.Lib.AppendZeros
import Derived.DeepKeys3
import Derived.WideLaws
set_option linter.unusedSimpArgs false
set_option linter.unusedVariables false
namespace Go.Proofs.YtiaibpcaloigkaaGreatDoor
section
open Go Go.RowKit Go.BigFrame
namespace Sx
section
variable {P:Program} {w0:World} {gs:LN} {K:List (Nat × Value)} {L:List Ent}
def ahH (P:Program) (w0:World) (gs:LN) (K:List (Nat × Value)) (L:List Ent) (op:Op) (ty:TypeId) (v:Value) (L' : List Ent):Prop :=
 ∀ a w,Kn K a→Me w0 gs L w→∀ o:Oper,o.op=op→o.type=ty→∃ w',(execOp a.eval o).run P w=.ok (.value v) w'∧Me w0 gs L' w'
section
variable {n:Nat} {ops:List Oper} {Q:Exit→Act→World→Prop} {rest:List Oper} {d:Nat} {op:Op} {ty:TypeId} {pos:String} {after:Array Edge} {gd:Option (Nat × Bool)}
theorem WO.both {v:Value} {L' : List Ent} (h:ahH P w0 gs K L op ty v L') (k:WO P w0 gs n ops Q ((d,v)::K) L' rest) (hd:Nat.blt d n=true:=by rfl) (hw:wk ops K gd=some true:=by rfl) :
  WO P w0 gs n ops Q K L (⟨some d,op,ty,pos,after,gd⟩::rest):=fun a w hdf hsz hk hme =>
 let ⟨_,h1,h2⟩:=h a w hk hme ⟨some d,op,ty,pos,after,gd⟩ rfl rfl
 aD (by simpa [Nat.blt_eq] using hd) hw hdf hsz hk h1 h2 k
end
theorem tw {st xt ty e size bts len cap n:Nat} {p:Option Addr} {z xs ys:LV} {x y:Operand} {v:Value} [SlT P st e size] [SlT P xt e size] [ElT P e bts z] (hx:ev K x=some (.slice p len cap)) (hy:ev K y=some v)
  (ho:Rds w0 gs L (.slice p len cap) len ys) (hyl:ys.length=len*z.length) (hr:Rds w0 gs L v n xs) (hxl:xs.length=n*z.length) (hroom:cap<len+n) (hn:len+n<9223372036854775808) (hcap:Builtin.nextslicecap (len+n) cap*bts≤281474976710656) (hbts:bts≠0) (hs:size=z.length) :
  gJ P w0 gs K L (.call { callee:=.builtin .append,args:=#[x,y],argTypes:=#[st,xt] }) ty (fun s=>.slice (some ⟨s 0,0,none⟩) (len+n) (s 1)) (fun s=>[⟨s 0,e,ys++xs++mkz (s 1 - (len+n)) z⟩]) (fun s=>len+n≤s 1∧s 1<9223372036854775808):=by
 intro a w hk hme o hop hty;obtain⟨dst,op,ty',pos,after,guard⟩:=o;subst hop;have hu:∀ w,(underlying st).run P w=.ok (.slice e) w:=fun w=>by simp[underlying,SlT.under (P:=P) (t:=st)]
 have hu2:∀ w,(underlying xt).run P w=.ok (.slice e) w:=fun w=>by simp[underlying,SlT.under (P:=P) (t:=xt)]
 have hsz:∀ w,(sizeOf e).run P w=.ok size w:=SlT.size (P:=P) (t:=st);obtain⟨i,g1,g2,g3,_⟩:=ElT.bytes (P:=P) (e:=e) w;obtain⟨i1,g1',g2',g3',_⟩:=ElT.bytes (P:=P) (e:=e) w.drew;obtain⟨v',g6,g7⟩:=ElT.zero (P:=P) (e:=e) w.drew;have hmd:Mr w0 gs L w.drew:=⟨⟨hme.mod.os,hme.mod.tape,hme.mod.output,hme.mod.size,hme.mod.block⟩,hme.ok⟩;generalize hG:(len+n)+w.tape w.drawn (.appendCap (len+n) cap e)%(2 ^ 63 - (len+n))=G;have hG1:len+n≤G:=by omega
 have hG2:G<9223372036854775808:=by
  have:=Nat.mod_lt (w.tape w.drawn (.appendCap (len+n) cap e)) (show 0<2 ^ 63 - (len+n) by omega);omega
 have hch:(choose (.appendCap (len+n) cap e)).run P w=.ok G w.drew:=by
  rw[run_choose];simp only[Question.forced,Bool.false_eq_true,if_false,Question.cut,hG];rfl
 have hroom' : ¬ (len+n≤cap):=by omega
 have hcap' : ¬ (Builtin.nextslicecap (len+n) cap*bts > 2 ^ 48):=by omega
 subst hs;have hrest:Builtin.zeroCells v'.cells (G - (len+n))=(mkz (G - (len+n)) z).toArray:=by
  unfold Builtin.zeroCells;rw[g7,← jh];simp
 refine⟨fun j=>if j=0 then w.heap.size else G,w.drew.alloc (.cells (ys++xs++mkz (G - (len+n)) z).toArray e),?_,⟨hG1,hG2⟩,((Below.refl _ _).drew).alloc (Nat.le_refl _) _,?_⟩
 ·rw[yV hk (ak:=[.slice p len cap,v]) (by simp[evs,hx,hy]),builtin_append];simp only[Sem.run_bind,Builtin.append_,List.getElem?_toArray,List.getElem?_cons_zero,List.getElem?_cons_succ,hu,Result.andThen_ok,hsz,hu2,Sem.run_pure,hr.len,Bool.false_eq_true,if_false];rw[if_neg hroom'];simp only[Sem.run_bind,g1,Result.andThen_ok,g2,hbts,or_self,and_false,if_false,false_or];rw[if_neg hcap'];simp only[Sem.run_bind,hch,Result.andThen_ok,g1',g2',run_askRoom,ho.first hyl hmd,Bool.not_false,if_true,hr.first hxl hmd,g6,hrest,newRow,run_newObj,Sem.run_pure];simp;rfl
 ·have hb:w.heap.size=w.drew.heap.size:=rfl;refine⟨fun ee he=>?_,fun ee he=>?_,by simp⟩
  ·have:ee=⟨w.heap.size,e,ys++xs++mkz (G - (len+n)) z⟩:=by simpa using he
   subst this;exact .of (heap_alloc_new w.drew _)
  ·have:ee=⟨w.heap.size,e,ys++xs++mkz (G - (len+n)) z⟩:=by simpa using he
   subst this;exact Nat.le_refl _
theorem qo {st ty e size g t off dl dc n m:Nat} {cs xs cs' ys:LV} {x y:Operand} {ats:Array TypeId} {v:Value} {L' : List Ent} [SlT P st e size] (hx:ev K x=some (.slice (some ⟨g,off,none⟩) dl dc)) (hy:ev K y=some v) (hat:ats[0]?=some st)
  (hr:Rds w0 gs L v n xs) (hxl:xs.length=n*size) (hm:Nat.min n dl=m) (hys:xs.take (m*size)=ys) (h1:ys.all Value.oneCell'=true) (hrp:Rp L g t cs cs' L') (hc:over cs off ys=cs') (hle:off+ys.length≤cs.length) (ht:t≠0) :
  ahH P w0 gs K L (.call { callee:=.builtin .copy,args:=#[x,y],argTypes:=ats }) ty (.int .i64 (m:Int)) L':=by
 intro a w hk hme o ho hty;obtain⟨dst,op,ty',pos,after,guard⟩:=o;subst ho;subst hc;subst hm;have hok:=(hme.ok _ hrp.mem).row ht;have hu:∀ w,(underlying st).run P w=.ok (.slice e) w:=fun w=>by simp[underlying,SlT.under (P:=P) (t:=st)]
 have hsz:∀ w,(sizeOf e).run P w=.ok size w:=SlT.size (P:=P) (t:=st);obtain⟨w',e1,e2,e3,e4,e5,e6,e7⟩:=vm (P:=P) (t:=t) g ys off 0 cs w Om (fun u hu=>List.all_eq_true.1 h1 u hu) hok;refine⟨w',?_,hme.write hrp e2 e3 e4 Om (fun k _ hk=>e6 k hk) e7⟩;rw[yV hk (ak:=[.slice (some ⟨g,off,none⟩) dl dc,v]) (by simp[evs,hx,hy]),builtin_copy];have htk:=hr.take (P:=P) (m:=Nat.min n dl) (Nat.min_le_left _ _) hxl hme.mr;rw[hys] at htk;simp only[Sem.run_bind,Builtin.copy_,hat,List.getElem?_toArray,List.getElem?_cons_zero,List.getElem?_cons_succ,hu,Result.andThen_ok,hsz,Sem.run_pure,hr.len,htk,e1,goInt]
theorem yu {t len elem size g o ty:Nat} {x:Operand} [ArT P t len elem size] (hx:ev K x=some (.pointer (some ⟨g,o,none⟩))):Does P w0 gs K L (.slice t x none none none) ty (.slice (some ⟨g,o,none⟩) len len):=by
 intro a w hk _ oo ho _;have hu:∀ w,(underlying t).run P w=.ok (.array len elem) w:=fun w=>by simp[underlying,ArT.under (P:=P) (t:=t)]
 simp only[execOp,ho,hk.eval hx,Option.map_none,Instr.sliceAt,Sem.run_bind,hu,Result.andThen_ok,Instr.sureAddr,Sem.run_pure,Instr.sliceBounds,ArT.size (P:=P) (t:=t),Nat.zero_mul,Nat.sub_zero];simp[vS]
theorem vA {t elem size ty len cap h:Nat} {p:Option Addr} {k:IntKind} {x y:Operand} [SlT P t elem size] (hx:ev K x=some (.slice p len cap)) (hy:ev K y=some (.int k (h:Int))) (hh:h≤cap):Does P w0 gs K L (.slice t x none (some y) none) ty (.slice p h cap):=by
 intro a w hk _ oo ho _;have hu:∀ w,(underlying t).run P w=.ok (.slice elem) w:=fun w=>by simp[underlying,SlT.under (P:=P) (t:=t)]
 have hb:((0:Int)≤(h:Int)∧(h:Int)≤(cap:Int)):=by omega
 simp only[execOp,ho,hk.eval hx,Option.map_none,Option.map_some,hk.eval hy,Instr.sliceAt,Sem.run_bind,hu,Result.andThen_ok,Instr.slice,Sem.run_pure,Instr.sliceBounds,Instr.sliceBound,asIntOf,if_pos hb,SlT.size (P:=P) (t:=t),Nat.zero_mul,Nat.sub_zero,Int.toNat_natCast];have:p.map (fun a=>a.add 0)=p:=by cases p<;>simp[Addr.add]
 simp[this]
theorem vp {t elem size ty len cap l b o o' : Nat} {k:IntKind} {x y:Operand} [SlT P t elem size] (hx:ev K x=some (.slice (some ⟨b,o,none⟩) len cap)) (hy:ev K y=some (.int k (l:Int))) (hh:l≤len) (hc:l<cap) (ho' : o+l*size=o') :
  Does P w0 gs K L (.slice t x (some y) none none) ty (.slice (some ⟨b,o',none⟩) (len - l) (cap - l)):=by
 intro a w hk _ oo ho _;subst ho';have hu:∀ w,(underlying t).run P w=.ok (.slice elem) w:=fun w=>by simp[underlying,SlT.under (P:=P) (t:=t)]
 have hb:((0:Int)≤(l:Int)∧(l:Int)≤(len:Int)):=by omega
 simp only[execOp,ho,hk.eval hx,Option.map_none,Option.map_some,hk.eval hy,Instr.sliceAt,Sem.run_bind,hu,Result.andThen_ok,Instr.slice,Sem.run_pure,Instr.sliceBounds,Instr.sliceBound,asIntOf,if_pos hb,SlT.size (P:=P) (t:=t),Int.toNat_natCast];have hne:¬ cap=l:=by omega
 simp[hne,vS]
theorem jL {t elem size ty len cap:Nat} {p:Option Addr} {x:Operand} [SlT P t elem size] (hx:ev K x=some (.slice p len cap)):Does P w0 gs K L (.call { callee:=.builtin .cap,args:=#[x],argTypes:=#[t] }) ty (.int .i64 (cap:Int)):=by
 intro a w hk _ oo ho _;obtain⟨dst,op,ty',pos,after,guard⟩:=oo;subst ho;have hu:∀ w,(underlying t).run P w=.ok (.slice elem) w:=fun w=>by simp[underlying,SlT.under (P:=P) (t:=t)]
 rw[yV hk (ak:=[.slice p len cap]) (by simp[evs,hx]),builtin_cap];simp[Builtin.cap_,hu,goInt]
theorem aa2 {ty:Nat} {ats:Array TypeId} {x y:Operand} {k k' : IntKind} {m n r:Int} (hx:ev K x=some (.int k m)) (hy:ev K y=some (.int k' n)) (hr:(if n > m then n else m)=r):Does P w0 gs K L (.call { callee:=.builtin .max,args:=#[x,y],argTypes:=ats }) ty (.int k r):=by
 intro a w hk _ oo ho _;obtain⟨dst,op,ty',pos,after,guard⟩:=oo;subst ho;subst hr;rw[yV hk (ak:=[.int k m,.int k' n]) (by simp[evs,hx,hy]),builtin_max];simp[run_max_int2]
theorem vD {ty:Nat} {ats:Array TypeId} {x y:Operand} {k k' : IntKind} {m n r:Int} (hx:ev K x=some (.int k m)) (hy:ev K y=some (.int k' n)) (hr:(if n<m then n else m)=r):Does P w0 gs K L (.call { callee:=.builtin .min,args:=#[x,y],argTypes:=ats }) ty (.int k r):=by
 intro a w hk _ oo ho _;obtain⟨dst,op,ty',pos,after,guard⟩:=oo;subst ho;subst hr;rw[yV hk (ak:=[.int k m,.int k' n]) (by simp[evs,hx,hy]),builtin_min];simp[run_min_int2]
end
def byC (l:LN):List Value:=l.map fun (b:Nat)=>Value.int .u8 (b:Int)
theorem zd (l:LN):(byC l).length=l.length:=by simp[byC]
theorem z8 (l m:LN):byC (l++m)=byC l++byC m:=by simp[byC]
theorem lM {l:LN} {i:Nat} (h:i<l.length):(byC l)[i]?=some (.int .u8 ((l[i]:Nat):Int)):=by simp[byC,h]
theorem zM (l:LN):(byC l).all Value.oneCell'=true:=by simp[byC,Value.oneCell']
theorem jY (l:LN) (n:Nat):(byC l).take n=byC (l.take n):=by simp[byC,List.map_take]
theorem oZ (l:LN) (n:Nat):(byC l).drop n=byC (l.drop n):=by simp[byC,List.map_drop]
def woC (l:LN):List Value:=l.map fun (b:Nat)=>Value.int .u64 (b:Int)
theorem acZ {l:LN} {i:Nat} (h:i<l.length):(woC l)[i]?=some (.int .u64 ((l[i]:Nat):Int)):=by simp[woC,h]
def zN (s:ByteArray):List Nat:=s.data.toList.map fun b=>b.toNat
section
variable {P:Program} {w0:World} {gs:LN} {K:List (Nat × Value)} {L:List Ent}
theorem aaA {st t e size ty:Nat} {s:ByteArray} {x:Operand} [agX P st] [SlT P t e size] [InT P e .u8] (hx:ev K x=some (.string s)) (hn:s.size<9223372036854775808) :
  gJ P w0 gs K L (.convert st t x) ty (fun s'=>.slice (some ⟨s' 0,0,none⟩) s.size (s' 1)) (fun s'=>[⟨s' 0,0,byC (zN s)++List.replicate (s' 1 - s.size) (Value.int .u8 0)⟩]) (fun s'=>s.size≤s' 1∧s' 1<9223372036854775808):=by
 intro a w hk hme o hop hty;have hu:∀ w,(underlying st).run P w=.ok .string w:=fun w=>by simp[underlying,agX.under (P:=P) (t:=st)]
 have hu2:∀ w,(underlying t).run P w=.ok (.slice e) w:=fun w=>by simp[underlying,SlT.under (P:=P) (t:=t)]
 have hu3:∀ w,(underlying e).run P w=.ok (.int .u8) w:=fun w=>by simp[underlying,InT.under (P:=P) (t:=e)]
 generalize hG:s.size+w.tape w.drawn (.appendCap s.size 0 e)%(2 ^ 63 - s.size)=G;have hG1:s.size≤G:=by omega
 have hG2:G<9223372036854775808:=by
  have:=Nat.mod_lt (w.tape w.drawn (.appendCap s.size 0 e)) (show 0<2 ^ 63 - s.size by omega);omega
 have hch:(choose (.appendCap s.size 0 e)).run P w=.ok G w.drew:=by
  rw[run_choose];simp only[Question.forced,Bool.false_eq_true,if_false,Question.cut,hG];rfl
 have hcs:(s.data.map fun b=>Value.int .u8 (b.toNat:Int))++Array.replicate (G - s.size) (Value.int .u8 0)=(byC (zN s)++List.replicate (G - s.size) (Value.int .u8 0)).toArray:=by
  apply Array.ext';simp[byC,zN]
 generalize hC:(byC (zN s)++List.replicate (G - s.size) (Value.int .u8 0):LV)=C at *;have hnew:=heap_alloc_new w.drew (.cells C.toArray e);have hrun:(execOp a.eval o).run P w=.ok (.value (.slice (some ⟨w.heap.size,0,none⟩) s.size G)) ((w.drew.alloc (.cells C.toArray e)).freeze ⟨w.heap.size,C.length,none⟩ 1):=by
  simp only[execOp,hop,hk.eval hx,convert,Sem.run_bind,hu,hu2,hu3,Result.andThen_ok,Conv.stringToBytes,hch,hcs,newRow,run_newObj,Sem.run_pure,markStringish,run_shape];have hs:(w.drew.alloc (.cells C.toArray e)).shape? w.heap.size=some (e,C.length):=by
   have h1:(w.drew.alloc (.cells C.toArray e)).heap[w.heap.size]?=some (.cells C.toArray e):=hnew;unfold World.shape?;rw[h1];simp
  have:({ w.drew with heap:=w.drew.heap.push (Obj.cells C.toArray e) }:World)=w.drew.alloc (.cells C.toArray e):=rfl;simp only[this];have hd:w.drew.heap.size=w.heap.size:=rfl;rw[hd,hs];rfl
 refine⟨fun j=>if j=0 then w.heap.size else G,_,hrun,⟨hG1,hG2⟩,?_,?_⟩
 ·have hb:Below w.heap.size w (w.drew.alloc (.cells C.toArray e)):=((Below.refl _ _).drew).alloc (Nat.le_refl _) _;refine hb.trans ⟨rfl,rfl,rfl,by simp[World.freeze],fun k hk=>?_⟩;simp only[World.freeze];rw[if_neg Om];simp only[Array.getElem?_modify];rw[if_neg Om]
 ·have hx:((w.drew.alloc (.cells C.toArray e)).freeze ⟨w.heap.size,C.length,none⟩ 1).heap[w.heap.size]?=some (.cells C.toArray e (C.length,C.length+1)):=by
   have h1:(w.drew.alloc (.cells C.toArray e)).heap[w.heap.size]?=some (.cells C.toArray e):=hnew;simp only[World.freeze];rw[if_neg Om];rw[Array.getElem?_modify,if_pos rfl,h1];simp
  simp only[if_true,Nat.one_ne_zero,if_false,hC];refine⟨fun ee he=>?_,fun ee he=>?_,by simp⟩
  ·have:ee=⟨w.heap.size,0,C⟩:=by simpa using he
   subst this;exact⟨e,_,hx,fun h=>absurd rfl h⟩
  ·have:ee=⟨w.heap.size,0,C⟩:=by simpa using he
   subst this;exact Nat.le_refl _
def FnM (P:Program) (f:FuncId) (args:LV) (g t:Nat) (cs cs' : List Value) (R:World→Prop) (v:Value):Prop :=
 ∀ w,(⟨g,t,cs⟩ : Ent).ok w→R w→Calls P f args.toArray w (fun e w'=>e=.returned v∧Mod [g] w w'∧(⟨g,t,cs'⟩ : Ent).ok w')
def aeS (w:World) (g t:Nat) (cs' : List Value) (v:Value):Ending→World→Prop:=fun e w'=>e=.returned v∧Mod [g] w w'∧(⟨g,t,cs'⟩ : Ent).ok w'
theorem FnM.enter {n:Nat} {f:FuncId} {fn:Func} {c:Code} {args:LV} {g t:Nat} {cs cs' : List Value} {R:World→Prop} {v:Value} (hf:P.funcs[f]?=some fn) (hb:fn.body=some c) (hn:fn.ntmps=n) (hle:Nat.ble args.length n=true)
  (k:∀ w,R w→WC P w [g] n c (bodyPost P fn (aeS w g t cs' v)) (kin args 0) [⟨g,t,cs⟩]):FnM P f args g t cs cs' R v:=by
 intro w hok hw;refine calls_of_wp hf hb ?_;have hle' : args.length≤n:=by simpa using hle
 refine k w hw _ w rfl (by simp[hn];omega) (fun t v hv=>?_) ⟨.refl _ _,by simpa using hok,by simp,by simp⟩;obtain⟨j,h1,h2⟩:=v6 args 0 t v hv;subst h1;have hj:j<args.length:=by
  rcases Nat.lt_or_ge j args.length with h|h
  ·exact h
  ·rw[List.getElem?_eq_none h] at h2;cases h2
 simp only[Nat.zero_add];rw[Array.getElem?_append_left (by simpa using hj)];simpa using h2
theorem Me.callM {w w' : World} {L' : List Ent} {g t:Nat} {cs cs' : List Value} (h:Me w0 gs L w) (hr:Rp L g t cs cs' L') (hm:Mod [g] w w') (hok:(⟨g,t,cs'⟩ : Ent).ok w') (ht:t≠0):Me w0 gs L' w' :=
 h.write hr hm.os hm.tape hm.output hm.size (fun k hk hne=>hm.block k hk (by simpa using hne)) (hok.row ht)
section
variable {n:Nat} {ops:List Oper} {Q:Exit→Act→World→Prop} {rest:List Oper} {d:Nat} {op:Op} {ty:TypeId} {pos:String} {after:Array Edge} {gd:Option (Nat × Bool)}
theorem WO.callM {f:FuncId} [Cal P f] {xs:Array Operand} {ats:Array TypeId} {ak:LV} {g t:Nat} {cs cs' : List Value} {L' : List Ent} {R:World→Prop} {v:Value} (ha:evs K xs.toList=some ak) (hc:FnM P f ak g t cs cs' R v) (hrp:Rp L g t cs cs' L') (hR:∀ w,Mr w0 gs L w→R w) (ht:t≠0)
  (k:WO P w0 gs n ops Q ((d,v)::K) L' rest) (hd:Nat.blt d n=true) (hw:wk ops K gd=some true) :
  WO P w0 gs n ops Q K L (⟨some d,.call { callee:=.value (.func f),args:=xs,argTypes:=ats },ty,pos,after,gd⟩::rest):=by
 intro a w hdf hsz hk hme;refine wpList_step fun F hF=>?_;rw[if_pos (yF (o:=⟨some d,.call { callee:=.value (.func f),args:=xs,argTypes:=ats },ty,pos,after,gd⟩) hk hw)];have hd' : d<n:=by simpa [Nat.blt_eq] using hd
 unfold Oper.wp;have h1:=vr (P:=P) (f:=f) (ty:=ty) (pos:=pos) (after:=after) (gd:=gd) (dst:=some d) (ats:=ats) (x:=.func f) (w:=w) (fs:=[]) (cs:=[]) hk rfl ha;simp only[List.nil_append,List.append_nil] at h1;rw[h1,Oper.upon_enter];refine (hc w (hme.ok _ hrp.mem) (hR w hme.mr)).mono ?_;rintro e w' ⟨rfl,hm,hok⟩;exact hF _ _ (k _ _ (by rw[put_defers];exact hdf) (by rw[yk];exact hsz) (hk.put Om v) (hme.callM hrp hm hok ht))
theorem WX.retM_of {fn:Func} {g t:Nat} {cs' : List Value} {v:Value} (hr:∀ a w,Kn K a→Me w0 [g] L w→(results fn a.tmps).run P w=.ok v w) (hN:Hs L g t cs'):WX w0 [g] n .ret (bodyPost P fn (aeS w0 g t cs' v)) K L:=fun a w h1 _ h3 h4 =>
 ⟨h1,v,hr a w h3 h4,rfl,h4.mod,h4.ok _ hN.mem⟩
theorem WX.retM_ofN {fn:Func} {g t:Nat} {cs' : List Value} {v:Value} (hr:∀ a w,Kn K a→Me w0 [g] L w→(results fn a.tmps).run P w=.ok v w) (hN:Hs L g t cs'):WX w0 [g] n .normal (bodyPost P fn (aeS w0 g t cs' v)) K L:=fun a w h1 _ h3 h4 =>
 ⟨h1,v,hr a w h3 h4,rfl,h4.mod,h4.ok _ hN.mem⟩
theorem ahe {fn:Func} {g:Nat} (hfn:fn.results=#[]) (a:Act) (w:World) (_:Kn K a) (_:Me w0 [g] L w):(results fn a.tmps).run P w=.ok (.tuple #[]) w:=by
 rw[yz,hfn];simp
theorem ady {fn:Func} {g:Nat} {r:ResultVar} {v:Value} (hfn:fn.results=#[r]) (hr:Rv P w0 [g] K L r v) (a:Act) (w:World) (hk:Kn K a) (hme:Me w0 [g] L w):(results fn a.tmps).run P w=.ok v w:=by
 have h:=ac8 (hr a w hk hme);rw[yz,hfn,Sem.run_bind,h];rfl
end
end
def Rd (v:Value) (n:Nat) (xs:LV) (w:World):Prop :=
 ∃ p c,v=.slice p n c∧((p=none∧n=0∧xs=[])∨∃ b o,p=some ⟨b,o,none⟩∧Seg w b o xs)
theorem Rd.rds {v:Value} {n:Nat} {xs:LV} {w0:World} {L:List Ent} (h:Rd v n xs w0):Rds w0 [] L v n xs:=by
 obtain⟨p,c,rfl,h|⟨b,o,rfl,hs⟩⟩:=h
 ·exact⟨p,c,rfl,.inl h⟩
 ·exact⟨_,c,rfl,.inr ⟨b,o,rfl,fun w hm i x hx=>hs.mod hm.mod Sm i x hx⟩⟩
theorem Rds.rd {v:Value} {n:Nat} {xs:LV} {w0 w:World} {gs:LN} {L:List Ent} (h:Rds w0 gs L v n xs) (hm:Mr w0 gs L w):Rd v n xs w:=by
 obtain⟨p,c,rfl,h|⟨b,o,rfl,hs⟩⟩:=h
 ·exact⟨p,c,rfl,.inl h⟩
 ·exact⟨_,c,rfl,.inr ⟨b,o,rfl,fun i x hx=>hs w hm i x hx⟩⟩
theorem Rd.of {b o n c:Nat} {xs:LV} {w:World} (h:Seg w b o xs):Rd (.slice (some ⟨b,o,none⟩) n c) n xs w:=⟨_,c,rfl,.inr ⟨b,o,rfl,h⟩⟩
theorem Rd.nil {c:Nat} {w:World}:Rd (.slice none 0 c) 0 [] w:=⟨none,c,rfl,.inl ⟨rfl,rfl,rfl⟩⟩
theorem Seg.sub {w:World} {b off:Nat} {cs vs:LV} {k m:Nat} (h:Seg w b off cs) (hc:cut cs k m=vs):Seg w b (off+k) vs:=fun i v hv=>by
 rw[Nat.add_assoc];exact h _ _ (vb hc hv)
def be (wd x:Nat):List Nat:=(List.range wd).map fun j=>x / 2 ^ (8*(wd - 1 - j))%256
theorem zj (wd x:Nat):(be wd x).length=wd:=by simp[be]
theorem acs {wd x j:Nat} (h:j<wd):(be wd x)[j]?=some (x / 2 ^ (8*(wd - 1 - j))%256):=by simp[be,h]
def beL (wd:Nat) (W:LN):List Nat:=W.flatMap (be wd)
theorem fh (wd:Nat) (W:LN):(beL wd W).length=W.length*wd:=by
 induction W with
 | nil=>simp[beL]
 | cons x W ih =>
  have:beL wd (x::W)=be wd x++beL wd W:=by simp[beL]
  rw[this,List.length_append,zj,ih,List.length_cons,Nat.add_mul,Nat.one_mul,Nat.add_comm]
theorem lE {wd j:Nat} (h:j<wd):∀ {W:LN} {i:Nat} (hi:i<W.length),(beL wd W)[i*wd+j]?=some (W[i] / 2 ^ (8*(wd - 1 - j))%256)
 | x::W,0,_=>by
  have:beL wd (x::W)=be wd x++beL wd W:=by simp[beL]
  rw[this,List.getElem?_append_left (by rw[zj];omega),Nat.zero_mul,Nat.zero_add,acs h];rfl
 | x::W,i+1,hi=>by
  have:beL wd (x::W)=be wd x++beL wd W:=by simp[beL]
  rw[this,List.getElem?_append_right (by rw[zj,Nat.add_mul];omega),zj,show (i+1)*wd+j - wd=i*wd+j by rw[Nat.add_mul];omega,lE h (by simpa using hi)];rfl
def pad (T:LN) (l:Nat):List Value:=byC (T.take l)++List.replicate (T.length - l) (Value.int .u8 0)
theorem qZ {T:LN} {l:Nat} (h:l≤T.length):(pad T l).length=T.length:=by
 simp only[pad,List.length_append,zd,List.length_take,List.length_replicate];omega
theorem jg (T:LN):pad T T.length=byC T:=by simp[pad]
theorem ie {T:LN} {l b:Nat} (h:T[l]?=some b):over (pad T l) l [.int .u8 (b:Int)]=pad T (l+1):=by
 have hl:l<T.length:=by
  rcases Nat.lt_or_ge l T.length with h1|h1
  ·exact h1
  ·rw[List.getElem?_eq_none h1] at h;cases h
 have hb:T[l]=b:=by rw[List.getElem?_eq_getElem hl] at h;exact Option.some.inj h
 have h1:(byC (T.take l)).length=l:=by rw[zd,List.length_take];omega
 unfold over pad;rw[List.take_append_of_le_length Om,List.take_of_length_le Om,List.drop_append,List.drop_of_length_le (by simp[h1]),h1,List.take_succ_eq_append_getElem hl,z8,hb];simp only[List.nil_append,List.length_cons,List.length_nil,List.drop_replicate];rw[show T.length - l - (l+(0+1) - l)=T.length - (l+1) by omega];simp[byC]
theorem aar (B T:LN):over (List.replicate (B++T).length (Value.int .u8 0)) 0 (byC B)=pad (B++T) B.length:=by
 unfold over pad;simp[zd,List.drop_replicate]
theorem u5 {x e:Nat} {k:IntKind} (he:e≤k.bits):((x:Nat):Int).fdiv (2 ^ min ((e:Int)).toNat k.bits)=((x / 2 ^ e:Nat):Int):=by
 rw[Int.toNat_natCast,Nat.min_eq_left he];rw[Int.fdiv_eq_ediv_of_nonneg _ (by exact Int.le_of_lt (Int.pow_pos Om))];rw[show ((2:Int) ^ e)=((2 ^ e:Nat):Int) by rw[Int.natCast_pow];rfl];rfl
theorem d8 (x:Nat):IntKind.u8.wrap ((x:Nat):Int)=((x%256:Nat):Int):=by
 simp only[IntKind.wrap,IntKind.signed,IntKind.bits];simp
section
variable {P:Program} {w0:World} {gs:LN} {K:List (Nat × Value)} {L:List Ent}
theorem pI {st xt ty e bts g t len cap n l:Nat} {z0:Value} {cs xs cs' : List Value} {x y:Operand} {v:Value} {L' : List Ent} [SlT P st e 1] [SlT P xt e 1] [ElT P e bts [z0]] (hx:ev K x=some (.slice (some ⟨g,0,none⟩) len cap)) (hy:ev K y=some v)
  (hr:Rds w0 gs L v n xs) (hxl:xs.length=n) (hroom:len+n≤cap) (h1:xs.all Value.oneCell'=true) (hrp:Rp L g t cs cs' L') (hc:over cs len xs=cs') (hle:len+n≤cs.length) (ht:t≠0) (hl:len+n=l) :
  ahH P w0 gs K L (.call { callee:=.builtin .append,args:=#[x,y],argTypes:=#[st,xt] }) ty (.slice (some ⟨g,0,none⟩) l cap) L':=by
 subst hl;exact rj (s:=undef) (z:=[z0]) hx hy hr (by simpa using hxl) hroom h1 hrp (by simpa using hc) (by simp;omega) rfl ht
end
def az (t n:Nat) (xs:LV):Value→List Ent→Prop:=fun v N=>∃ g,v=.slice (some ⟨g,0,none⟩) n n∧N=[⟨g,t,xs⟩]
def agS (t n:Nat) (xs:LV):Value→List Ent→Prop:=fun v N=>∃ g c r,v=.slice (some ⟨g,0,none⟩) n c∧N=[⟨g,t,xs++r⟩]∧n≤c∧c<9223372036854775808
section
variable {P:Program} {w0:World} {gs:LN} {n:Nat} {ops:List Oper} {Q:Exit→Act→World→Prop} {K:List (Nat × Value)} {L:List Ent} {rest:List Oper}
variable {d:Nat} {op:Op} {ty:TypeId} {pos:String} {after:Array Edge} {gd:Option (Nat × Bool)}
theorem WO.acallN {f:FuncId} [Cal P f] {xs:Array Operand} {ats:Array TypeId} {ak:LV} {R:World→Prop} {t m:Nat} {cs:LV} (ha:evs K xs.toList=some ak:=by rfl) (hc:Fn P f ak R (az t m cs)) (hR:∀ w,Mr w0 gs L w→R w)
  (k:∀ g,WO P w0 gs n ops Q ((d,.slice (some ⟨g,0,none⟩) m m)::K) (⟨g,t,cs⟩::L) rest) (hd:Nat.blt d n=true:=by rfl) (hw:wk ops K gd=some true:=by rfl) :
  WO P w0 gs n ops Q K L (⟨some d,.call { callee:=.value (.func f),args:=xs,argTypes:=ats },ty,pos,after,gd⟩::rest) :=
 WO.calls (fs:=[]) (cs:=[]) hc rfl ha Sm hR (fun u N ⟨g,e1,e2⟩=>by subst e1;subst e2;exact k g) hd hw
theorem WO.acallL {f:FuncId} [Cal P f] {xs:Array Operand} {ats:Array TypeId} {ak:LV} {R:World→Prop} {t m:Nat} {cs:LV} (ha:evs K xs.toList=some ak:=by rfl) (hc:Fn P f ak R (agS t m cs)) (hR:∀ w,Mr w0 gs L w→R w)
  (k:∀ g c r,m≤c→c<9223372036854775808→WO P w0 gs n ops Q ((d,.slice (some ⟨g,0,none⟩) m c)::K) (⟨g,t,cs++r⟩::L) rest) (hd:Nat.blt d n=true:=by rfl) (hw:wk ops K gd=some true:=by rfl) :
  WO P w0 gs n ops Q K L (⟨some d,.call { callee:=.value (.func f),args:=xs,argTypes:=ats },ty,pos,after,gd⟩::rest) :=
 WO.calls (fs:=[]) (cs:=[]) hc rfl ha Sm hR (fun u N ⟨g,c,r,e1,e2,h1,h2⟩=>by subst e1;subst e2;exact k g c r h1 h2) hd hw
theorem WX.retN {fn:Func} {r:ResultVar} {g t m:Nat} {cs:LV} {L' : List Ent} (hfn:fn.results=#[r]:=by rfl) (hr:Rv P w0 [] K L r (.slice (some ⟨g,0,none⟩) m m):=by exact zK rfl) (hN:Pk L g t cs L':=by (repeat (first|exact Pk.here|apply Pk.there))) :
  WX w0 [] n .ret (bodyPost P fn (uw w0 (az t m cs))) K L:=WX.ret1 hfn hr [⟨g,t,cs⟩] ⟨cs,L',hN,rfl,trivial⟩ ⟨g,rfl,rfl⟩
theorem WX.retL {fn:Func} {r:ResultVar} {g t m c:Nat} {cs z:LV} {L' : List Ent} (h1:m≤c) (h2:c<9223372036854775808) (hN:Pk L g t (cs++z) L') (hfn:fn.results=#[r]:=by rfl) (hr:Rv P w0 [] K L r (.slice (some ⟨g,0,none⟩) m c):=by exact zK rfl) :
  WX w0 [] n .ret (bodyPost P fn (uw w0 (agS t m cs))) K L:=WX.ret1 hfn hr [⟨g,t,cs++z⟩] ⟨cs++z,L',hN,rfl,trivial⟩ ⟨g,c,z,rfl,rfl,h1,h2⟩
end
end Sx
end
section
open Go Go.RowKit
namespace Sx
def beV (l:LN):Nat:=l.foldl (fun v b=>v*256+b) 0
theorem aad (l:LN) (b:Nat):beV (l++[b])=beV l*256+b:=by simp[beV]
theorem sf (l m:LN):beV (l++m)=beV l*256 ^ m.length+beV m:=by
 have:∀ (m:LN) (v:Nat),m.foldl (fun v b=>v*256+b) v=v*256 ^ m.length+beV m:=by
  intro m
  induction m with
  | nil=>intro v;simp[beV]
  | cons b m ih =>
   intro v;have h:beV (b::m)=b*256 ^ m.length+beV m:=by
    have:=ih (0*256+b);rw[Nat.zero_mul,Nat.zero_add] at this;simpa [beV] using this
   rw[List.foldl_cons,ih,h,List.length_cons,Nat.pow_succ,Nat.add_mul,Nat.mul_assoc,Nat.mul_comm 256,Nat.add_assoc]
 rw[beV,List.foldl_append,this];rfl
theorem bI {l:LN} (h:∀ b∈l,b<256):beV l<256 ^ l.length:=by
 have:∀ (m:LN) (v:Nat),(∀ b∈m,b<256)→m.foldl (fun v b=>v*256+b) v<(v+1)*256 ^ m.length:=by
  intro m
  induction m with
  | nil=>intro v _;simp
  | cons b m ih =>
   intro v hm;have h1:=ih (v*256+b) (fun c hc=>hm c (List.mem_cons_of_mem _ hc));have h2:=hm b List.mem_cons_self;rw[List.foldl_cons,List.length_cons,Nat.pow_succ,Nat.mul_comm (256 ^ m.length),← Nat.mul_assoc];exact Nat.lt_of_lt_of_le h1 (Nat.mul_le_mul_right _ Om)
 have:=this l 0 h;simpa [beV] using this
theorem adI {v b:Nat} (hv:v<72057594037927936) (hb:b<256):IntKind.u64.wrap (((BitVec.ofInt IntKind.u64.bits ((v*256:Nat):Int) ||| BitVec.ofInt IntKind.u64.bits ((b:Nat):Int)).toNat:Nat):Int)=((v*256+b:Nat):Int):=by
 have h1:(BitVec.ofInt IntKind.u64.bits ((v*256:Nat):Int)).toNat=v*256:=by
  rw[BitVec.ofInt_natCast,BitVec.toNat_ofNat];exact Nat.mod_eq_of_lt (by show v*256<18446744073709551616;omega)
 have h2:(BitVec.ofInt IntKind.u64.bits ((b:Nat):Int)).toNat=b:=by
  rw[BitVec.ofInt_natCast,BitVec.toNat_ofNat];exact Nat.mod_eq_of_lt (by show b<18446744073709551616;omega)
 have h3:v*256 ||| b=v*256+b:=by
  have:=Nat.shiftLeft_add_eq_or_of_lt (i:=8) (show b<2 ^ 8 from hb) v;rw[Nat.shiftLeft_eq] at this;exact this.symm
 rw[BitVec.toNat_or,h1,h2,h3];exact u64_in Om Om
theorem aaj {v:Nat} (hv:v<72057594037927936):IntKind.u64.wrap (((v:Nat):Int)*2 ^ (min (8:Int).toNat IntKind.u64.bits))=((v*256:Nat):Int):=by
 rw[show (2:Int) ^ (min (8:Int).toNat IntKind.u64.bits)=256 from rfl,show ((v:Nat):Int)*256=((v*256:Nat):Int) by rw[Int.natCast_mul];rfl];exact u64_in Om Om
theorem aaw {x m:Nat} (y:Nat) (h:y=x) (hm:m<8):y%18446744073709551616 / 2 ^ (8*m)%256=x / 2 ^ (8*m)%256:=by
 subst h
 match m,hm with
 | 0,_|1,_|2,_|3,_|4,_|5,_|6,_|7,_=>simp only[Nat.reduceMul,Nat.reducePow];omega
theorem pU (k n x:Nat):be (k+n) x=be k (x / 2 ^ (8*n))++be n x:=by
 unfold be;rw[List.range_add,List.map_append,List.map_map];congr 1
 ·refine List.map_congr_left (fun j hj=>?_);have hj:j<k:=List.mem_range.1 hj;rw[Nat.div_div_eq_div_mul,← Nat.pow_add,show 8*n+8*(k - 1 - j)=8*(k+n - 1 - j) by omega]
 ·refine List.map_congr_left (fun j hj=>?_);show x / 2 ^ (8*(k+n - 1 - (k+j)))%256=_;rw[show k+n - 1 - (k+j)=n - 1 - j by omega]
theorem af1 (y:Nat):be 8 (y%18446744073709551616)=be 8 y:=by
 unfold be;refine List.map_congr_left (fun j hj=>?_);have hj:j<8:=List.mem_range.1 hj;exact aaw y rfl Om
theorem adv (x:Nat):beL 8 [wd 3 x,wd 2 x,wd 1 x,wd 0 x]=be 32 x:=by
 rw[show 32=8+24 from rfl,pU 8 24,show 24=8+16 from rfl,pU 8 16,show 16=8+8 from rfl,pU 8 8];simp only[beL,List.flatMap_cons,List.flatMap_nil,List.append_nil,wd,af1]
theorem eH {B:LN} (h:B.length=32):tn (beV ((B.drop 24).take 8)) (beV ((B.drop 16).take 8)) (beV ((B.drop 8).take 8)) (beV ((B.drop 0).take 8))=beV B:=by
 have e:B=B.take 8++((B.drop 8).take 8++((B.drop 16).take 8++(B.drop 24).take 8)):=by
  rw[show B.drop 24=(B.drop 16).drop 8 by rw[List.drop_drop],List.take_of_length_le (l:=(B.drop 16).drop 8) (by simp[h]),List.take_append_drop,show B.drop 16=(B.drop 8).drop 8 by rw[List.drop_drop],List.take_append_drop,List.take_append_drop]
 have h8:((B.drop 8).take 8).length=8:=by simp[h]
 have h16:((B.drop 16).take 8).length=8:=by simp[h]
 have h24:((B.drop 24).take 8).length=8:=by simp[h]
 have:=congrArg beV e;rw[sf,sf,sf,List.length_append,List.length_append,h8,h16,h24] at this;rw[this,List.drop_zero];simp only[tn,Nat.reducePow,Nat.reduceAdd];omega
theorem tG {l:LN} (h:∀ b∈l,b<256) (n:Nat):∀ b∈l.take n,b<256:=fun b hb=>h b (List.mem_of_mem_take hb)
theorem vY {l:LN} (h:∀ b∈l,b<256) (n:Nat):∀ b∈l.drop n,b<256:=fun b hb=>h b (List.mem_of_mem_drop hb)
theorem nc {l:LN} (h:∀ b∈l,b<256) (n:Nat):beV (l.take 8)<18446744073709551616:=by
 have:=bI (tG h 8);exact Nat.lt_of_lt_of_le this (by
  have h1:(l.take 8).length≤8:=by rw[List.length_take];omega
  exact Nat.pow_le_pow_right (n:=256) Om h1)
end Sx
end
section
open Go Go.RowKit Go.BigFrame
namespace Sx
section
variable {P:Program} {w0:World} {gs:LN} {K:List (Nat × Value)} {L:List Ent}
theorem bv {st xt ty e size bts n:Nat} {z:LV} {x y:Operand} {k kn:IntKind} [SlT P st e size] [InT P xt kn] [ElT P e bts z] (hx:ev K x=some (.slice none 0 0)) (hy:ev K y=some (.int k (n:Int))) (h0:0<n) (hn:n<9223372036854775808) (hz:0<z.length) (hb:n*bts≤281474976710656) :
  gJ P w0 gs K L (.call { callee:=.builtin .append,args:=#[x,y],argTypes:=#[st,xt] }) ty (fun s=>.slice (some ⟨s 0,0,none⟩) n (s 1)) (fun s=>[⟨s 0,e,mkz n z++mkz (s 1 - n) z⟩]) (fun s=>n≤s 1∧s 1<9223372036854775808):=by
 intro a w hk hme o hop hty;obtain⟨dst,op,ty',pos,after,guard⟩:=o;subst hop;obtain⟨i,h1,h2,h3,v,h4,h5⟩:=ElT.info (P:=P) (e:=e);have hr:=Lib.run_append_nil_zeros (P:=P) w st xt ty' e i v k kn (SlT.under (P:=P) (t:=st)) (InT.under (P:=P) (t:=xt)) h1 h4 n h0 Om Om (by rw[h2];exact hb);have hge:=grownCap_ge w n 0 e;have hml:=grownCap_le_maxLen w n 0 e (by simp[maxLen];omega);generalize grownCap w n 0 e=G at *;have hG:G<9223372036854775808:=by unfold maxLen at hml;omega
 have hzc:∀ m,Builtin.zeroCells v.cells m=(mkz m z).toArray:=fun m=>by
  unfold Builtin.zeroCells;rw[h5,← jh];simp
 have hcs:Builtin.zeroCells v.cells n++Builtin.zeroCells v.cells (G - n)=(mkz n z++mkz (G - n) z).toArray:=by rw[hzc,hzc];simp
 rw[hcs] at hr;refine⟨fun j=>if j=0 then w.heap.size else G,w.drew.alloc (.cells (mkz n z++mkz (G - n) z).toArray e),?_,⟨hge,hG⟩,((Below.refl _ _).drew).alloc (Nat.le_refl _) _,?_⟩
 ·rw[yV hk (ak:=[.slice none 0 0,.int k (n:Int)]) (by simp[evs,hx,hy]),builtin_append];simp only[Sem.run_bind,hr,Result.andThen_ok,Sem.run_pure];simp
 ·refine⟨fun ee he=>?_,fun ee he=>?_,by simp⟩
  ·have:ee=⟨w.heap.size,e,mkz n z++mkz (G - n) z⟩:=by simpa using he
   subst this;exact .of (heap_alloc_new w.drew _)
  ·have:ee=⟨w.heap.size,e,mkz n z++mkz (G - n) z⟩:=by simpa using he
   subst this;exact Nat.le_refl _
end
def room (A:LN) (m:Nat):List Value:=byC A++List.replicate m (Value.int .u8 0)
theorem qj (A:LN) (m:Nat):(room A m).length=A.length+m:=by simp[room,zd]
theorem nF {A X:LN} {m:Nat} (h:X.length≤m):over (room A m) A.length (byC X)=room (A++X) (m - X.length):=by
 unfold over room;have h1:(byC A).length=A.length:=zd A;rw[List.take_append_of_le_length Om,List.take_of_length_le Om,List.drop_append,List.drop_of_length_le (by rw[h1,zd];omega),z8,h1,zd,List.drop_replicate];rw[show m - (A.length+X.length - A.length)=m - X.length by omega];simp
theorem d9 (n c:Nat) (h:n≤c):mkz n [Value.int .u8 0]++mkz (c - n) [Value.int .u8 0]=room [] c:=by
 rw[rR,rR,List.replicate_append_replicate,show n+(c - n)=c by omega];rfl
end Sx
end
section
open Go Go.RowKit
namespace Sx
def w3C (l:LN):List Value:=l.map fun (b:Nat)=>Value.int .u32 (b:Int)
theorem zy (l:LN):(w3C l).length=l.length:=by simp[w3C]
theorem tp (l m:LN):w3C (l++m)=w3C l++w3C m:=by simp[w3C]
theorem rS {l:LN} {i x:Nat} (h:l[i]?=some x):(w3C l)[i]?=some (.int .u32 ((x:Nat):Int)):=by simp[w3C,h]
theorem ku (l:LN):(w3C l).all Value.oneCell'=true:=by simp[w3C,Value.oneCell']
def aA (l:LN) (n:Nat):List Value:=w3C l++List.replicate (n - l.length) (Value.int .u32 0)
theorem rA {l:LN} {n:Nat} (h:l.length≤n):(aA l n).length=n:=by simp[aA,zy];omega
theorem rq {l:LN} {n i x:Nat} (h:l[i]?=some x):(aA l n)[i]?=some (.int .u32 ((x:Nat):Int)):=by
 have hi:i<l.length:=by
  rcases Nat.lt_or_ge i l.length with h1|h1
  ·exact h1
  ·rw[List.getElem?_eq_none h1] at h;cases h
 unfold aA;rw[List.getElem?_append_left (by rw[zy];exact hi)];exact rS h
theorem m7 {l:LN} {n x:Nat} (h:l.length<n):over (aA l n) l.length [.int .u32 ((x:Nat):Int)]=aA (l++[x]) n:=by
 have h1:(w3C l).length=l.length:=zy l;unfold over aA;rw[List.take_append_of_le_length Om,List.take_of_length_le Om,List.drop_append,List.drop_of_length_le (by rw[h1];simp),h1,tp,List.drop_replicate];simp only[List.length_cons,List.length_nil,List.length_append,List.nil_append];rw[show n - l.length - (l.length+(0+1) - l.length)=n - (l.length+(0+1)) by omega];rfl
theorem rL (x:Nat):IntKind.u32.wrap ((x:Nat):Int)=((x%4294967296:Nat):Int):=by
 simp only[IntKind.wrap,IntKind.signed,IntKind.bits];simp
theorem adB (a b:Nat):IntKind.u32.wrap (((a:Nat):Int)+((b:Nat):Int))=(((a+b)%4294967296:Nat):Int):=by
 rw[← Int.natCast_add];exact rL _
theorem dN (v e:Nat) (he:e≤32):IntKind.u32.wrap (((v:Nat):Int)*2 ^ (min ((e:Nat):Int).toNat IntKind.u32.bits))=((v*2 ^ e%4294967296:Nat):Int):=by
 rw[Int.toNat_natCast,Nat.min_eq_left (by exact he),show ((2:Int) ^ e)=((2 ^ e:Nat):Int) by rw[Int.natCast_pow];rfl,← Int.natCast_mul];exact rL _
theorem ae7 {a:Nat} (h:a<4294967296):(BitVec.ofInt IntKind.u32.bits ((a:Nat):Int)).toNat=a:=by
 rw[BitVec.ofInt_natCast,BitVec.toNat_ofNat];exact Nat.mod_eq_of_lt h
theorem aX {a b:Nat} (ha:a<4294967296) (hb:b<4294967296):a ||| b<4294967296:=Nat.or_lt_two_pow (n:=32) ha hb
theorem jc {a b:Nat} (ha:a<4294967296) (hb:b<4294967296):a ^^^ b<4294967296:=Nat.xor_lt_two_pow (n:=32) ha hb
theorem rK {a b:Nat} (ha:a<4294967296):a &&& b<4294967296:=Nat.lt_of_le_of_lt Nat.and_le_left ha
theorem ab1 {a b:Nat} (ha:a<4294967296) (hb:b<4294967296):IntKind.u32.wrap (((BitVec.ofInt IntKind.u32.bits ((a:Nat):Int) ||| BitVec.ofInt IntKind.u32.bits ((b:Nat):Int)).toNat:Nat):Int)=((a ||| b:Nat):Int):=by
 rw[BitVec.toNat_or,ae7 ha,ae7 hb,rL,Nat.mod_eq_of_lt (aX ha hb)]
theorem bR {a b:Nat} (ha:a<4294967296) (hb:b<4294967296):IntKind.u32.wrap (((BitVec.ofInt IntKind.u32.bits ((a:Nat):Int) ^^^ BitVec.ofInt IntKind.u32.bits ((b:Nat):Int)).toNat:Nat):Int)=((a ^^^ b:Nat):Int):=by
 rw[BitVec.toNat_xor,ae7 ha,ae7 hb,rL,Nat.mod_eq_of_lt (jc ha hb)]
theorem aeb {a b:Nat} (ha:a<4294967296) (hb:b<4294967296):IntKind.u32.wrap (((BitVec.ofInt IntKind.u32.bits ((a:Nat):Int) &&& BitVec.ofInt IntKind.u32.bits ((b:Nat):Int)).toNat:Nat):Int)=((a &&& b:Nat):Int):=by
 rw[BitVec.toNat_and,ae7 ha,ae7 hb,rL,Nat.mod_eq_of_lt (rK ha)]
theorem bF {v b e:Nat} (h:b<2 ^ e):v*2 ^ e ||| b=v*2 ^ e+b:=by
 have:=Nat.shiftLeft_add_eq_or_of_lt (i:=e) h v;rw[Nat.shiftLeft_eq] at this;exact this.symm
theorem cU {n x:Nat} (hx:x<4294967296):Sha.rotr n x<4294967296:=aX (Nat.lt_of_le_of_lt (Nat.div_le_self _ _) hx) (Nat.mod_lt _ Om)
def qY (x:Nat) (ns:LN):Nat:=ns.foldl (fun a n=>a ^^^ Sha.rotr n x) 0
theorem fU (x:Nat) (ns:LN) (n:Nat):qY x (ns++[n])=qY x ns ^^^ Sha.rotr n x:=by simp[qY]
theorem kA {x:Nat} (hx:x<4294967296) (ns:LN):qY x ns<4294967296:=by
 have:∀ (ns:LN) (a:Nat),a<4294967296→ns.foldl (fun a n=>a ^^^ Sha.rotr n x) a<4294967296:=by
  intro ns
  induction ns with
  | nil=>intro a h;exact h
  | cons n ns ih=>intro a h;exact ih _ (jc h (cU hx))
 exact this ns 0 Om
def inC (l:LN):List Value:=l.map fun (b:Nat)=>Value.int .i64 (b:Int)
theorem adG {l:LN} {i:Nat} (h:i<l.length):(inC l)[i]?=some (.int .i64 ((l[i]:Nat):Int)):=by simp[inC,h]
theorem adu {n:Nat} (h0:0<n) (h:n<32):IntKind.u64.wrap (-((n:Nat):Int))=((18446744073709551616 - n:Nat):Int):=by
 simp only[IntKind.wrap,IntKind.signed,IntKind.bits];simp;omega
theorem agZ {n:Nat} (h0:0<n) (h:n<32):IntKind.u64.wrap (((BitVec.ofInt IntKind.u64.bits ((18446744073709551616 - n:Nat):Int) &&& BitVec.ofInt IntKind.u64.bits 31).toNat:Nat):Int)=((32 - n:Nat):Int):=by
 have h1:(BitVec.ofInt IntKind.u64.bits ((18446744073709551616 - n:Nat):Int)).toNat=18446744073709551616 - n:=by
  rw[BitVec.ofInt_natCast,BitVec.toNat_ofNat];exact Nat.mod_eq_of_lt (by show _<18446744073709551616;omega)
 have h2:(BitVec.ofInt IntKind.u64.bits 31).toNat=2 ^ 5 - 1:=by decide
 rw[BitVec.toNat_and,h1,h2,Nat.and_two_pow_sub_one_eq_mod,show (18446744073709551616 - n)%2 ^ 5=32 - n by omega];exact u64_in Om Om
end Sx
end
section
open Go Go.RowKit Go.BigFrame
namespace Sx
def adT (p:Option Addr) (cap l size:Nat):Option Addr:=if cap=l then p else p.map fun a=>a.add (l*size)
section
variable {P:Program} {w0:World} {gs:LN} {K:List (Nat × Value)} {L:List Ent}
theorem qk {t elem size ty len cap l:Nat} {p:Option Addr} {k:IntKind} {x y:Operand} [SlT P t elem size] (hx:ev K x=some (.slice p len cap)) (hy:ev K y=some (.int k (l:Int))) (hh:l≤len) :
  Does P w0 gs K L (.slice t x (some y) none none) ty (.slice (adT p cap l size) (len - l) (cap - l)):=by
 intro a w hk _ oo ho _;have hu:∀ w,(underlying t).run P w=.ok (.slice elem) w:=fun w=>by simp[underlying,SlT.under (P:=P) (t:=t)]
 have hb:((0:Int)≤(l:Int)∧(l:Int)≤(len:Int)):=by omega
 simp only[execOp,ho,hk.eval hx,Option.map_none,Option.map_some,hk.eval hy,Instr.sliceAt,Sem.run_bind,hu,Result.andThen_ok,Instr.slice,Sem.run_pure,Instr.sliceBounds,Instr.sliceBound,asIntOf,if_pos hb,SlT.size (P:=P) (t:=t),Int.toNat_natCast];rfl
theorem tg {t len elem size g o ty l o' : Nat} {k:IntKind} {x y:Operand} [ArT P t len elem size] (hx:ev K x=some (.pointer (some ⟨g,o,none⟩))) (hy:ev K y=some (.int k (l:Int))) (hl:l<len) (ho' : o+l*size=o') :
  Does P w0 gs K L (.slice t x (some y) none none) ty (.slice (some ⟨g,o',none⟩) (len - l) (len - l)):=by
 intro a w hk _ oo ho _;subst ho';have hu:∀ w,(underlying t).run P w=.ok (.array len elem) w:=fun w=>by simp[underlying,ArT.under (P:=P) (t:=t)]
 have hb:((0:Int)≤(l:Int)∧(l:Int)≤(len:Int)):=by omega
 have hne:¬ len=l:=by omega
 simp only[execOp,ho,hk.eval hx,Option.map_none,Option.map_some,hk.eval hy,Instr.sliceAt,Sem.run_bind,hu,Result.andThen_ok,Instr.sureAddr,Sem.run_pure,Instr.sliceBounds,Instr.sliceBound,asIntOf,if_pos hb,ArT.size (P:=P) (t:=t),Int.toNat_natCast];simp[hne,vS]
end
def RdN (g:Nat) (v:Value) (n:Nat) (xs:LV) (w:World):Prop :=
 ∃ p c,v=.slice p n c∧n≤c∧c<9223372036854775808∧xs.length=n∧((p=none∧n=0)∨∃ b o,p=some ⟨b,o,none⟩∧b≠g∧Seg w b o xs)
theorem RdN.rds {g:Nat} {v:Value} {n:Nat} {xs:LV} {w0:World} {L:List Ent} (h:RdN g v n xs w0):Rds w0 [g] L v n xs:=by
 obtain⟨p,c,rfl,_,_,hl,⟨h1,h2⟩|⟨b,o,rfl,hb,hs⟩⟩:=h
 ·exact⟨p,c,rfl,.inl ⟨h1,h2,List.eq_nil_of_length_eq_zero Om⟩⟩
 ·exact⟨_,c,rfl,.inr ⟨b,o,rfl,fun w hm i x hx=>hs.mod hm.mod (by simpa using hb) i x hx⟩⟩
theorem RdN.from {g:Nat} {p:Option Addr} {n c l:Nat} {xs:LV} {w0:World} (h:RdN g (.slice p n c) n xs w0) (hl:l≤n):RdN g (.slice (adT p c l 1) (n - l) (c - l)) (n - l) (xs.drop l) w0:=by
 obtain⟨p',c',e,h1,h2,h3,h4⟩:=h;cases e;refine⟨_,_,rfl,by omega,by omega,by rw[List.length_drop];omega,?_⟩
 rcases h4 with ⟨h5,h6⟩|⟨b,o,h5,hb,hs⟩
 ·left;subst h5;refine⟨?_,by omega⟩;unfold adT;split<;>rfl
 ·right;subst h5
  by_cases hcl:c=l
  ·refine⟨b,o,by unfold adT;rw[if_pos hcl],hb,fun i x hx=>?_⟩;rw[List.drop_of_length_le Om] at hx;simp at hx
  ·refine⟨b,o+l,by unfold adT;rw[if_neg hcl];simp[vS],hb,fun i x hx=>?_⟩;rw[List.getElem?_drop] at hx;rw[Nat.add_assoc];exact hs _ x hx
theorem Rds.perm {w0:World} {gs:LN} {L L1:List Ent} {v:Value} {n:Nat} {xs:LV} (h:Rds w0 gs L v n xs) (hp:L.Perm L1):Rds w0 gs L1 v n xs:=by
 obtain⟨p,c,rfl,h|⟨b,o,rfl,hr⟩⟩:=h
 ·exact⟨p,c,rfl,.inl h⟩
 ·exact⟨_,c,rfl,.inr ⟨b,o,rfl,fun w hm=>hr w ⟨hm.mod,fun e he=>hm.ok e (hp.mem_iff.1 he)⟩⟩⟩
theorem tL {xs r ys:LV}:over (xs++r) xs.length ys=xs++ys++r.drop ys.length:=by
 unfold over;rw[List.take_left,List.drop_append,List.drop_of_length_le Om,List.nil_append,show xs.length+ys.length - xs.length=ys.length by omega]
section
variable {P:Program} {w0:World} {gs:LN} {n:Nat} {ops:List Oper} {Q:Exit→Act→World→Prop} {K:List (Nat × Value)} {L:List Ent} {rest:List Oper}
variable {d:Nat} {ty:TypeId} {pos:String} {after:Array Edge} {gd:Option (Nat × Bool)}
theorem WO.appB {st xt e bts g len cap m l:Nat} {z0:Value} {xs r ys:LV} {x y:Operand} {v:Value} {L2:List Ent} [SlT P st e 1] [SlT P xt e 1] [ElT P e bts [z0]] (hx:ev K x=some (.slice (some ⟨g,0,none⟩) len cap)) (hy:ev K y=some v)
  (hxl:xs.length=len) (hcap:(xs++r).length=cap) (hp:Pk L g e (xs++r) L2) (hr:Rds w0 gs L v m ys) (hyl:ys.length=m) (h1:ys.all Value.oneCell'=true) (hl:len+m=l) (hlb:l<9223372036854775808) (hc:cap<9223372036854775808) (hnc:l*bts≤140737488355328) (hb:bts≠0) (ht:e≠0)
  (k:∀ g' c' r',(xs++ys++r').length=c'→c' < 9223372036854775808→WO P w0 gs n ops Q ((d,.slice (some ⟨g',0,none⟩) l c')::K) (⟨g',e,xs++ys++r'⟩::L2) rest) (hd:Nat.blt d n=true:=by rfl) (hw:wk ops K gd=some true:=by rfl) :
  WO P w0 gs n ops Q K L (⟨some d,.call { callee:=.builtin .append,args:=#[x,y],argTypes:=#[st,xt] },ty,pos,after,gd⟩::rest):=by
 subst hl;intro a w hdf hsz hk hme;have hr1:=hr.perm hp.perm;have key:WO P w0 gs n ops Q K (⟨g,e,xs++r⟩::L2) (⟨some d,.call { callee:=.builtin .append,args:=#[x,y],argTypes:=#[st,xt] },ty,pos,after,gd⟩::rest):=by
  by_cases hroom:len+m≤cap
  ·refine WO.both (pI (l:=len+m) hx hy hr1 hyl hroom h1 Rp.here (cs':=xs++ys++r.drop m) (by rw[← hxl,← hyl];exact tL) Om ht rfl) (k g cap (r.drop m) ?_ hc) hd hw;simp only[List.length_append,List.length_drop] at hcap ⊢;omega
  ·refine WO.news (tw (z:=[z0]) (n:=m) hx hy (ys:=xs) (Rds.own (m:=len) Hs.here (by unfold cut;rw[List.drop_zero,← hxl,List.take_left])) (by simpa using hxl) hr1 (by simpa using hyl) Om hlb (growslice_fits Om hnc) hb rfl) (fun s hs=>?_) hd hw;have hk2:=k (s 0) (s 1) (mkz (s 1 - (len+m)) [z0]) (by rw[List.length_append,List.length_append,zV,hxl,hyl];simp;omega) hs.2;exact fun a w h1 h2 h3 h4=>hk2 a w h1 h2 h3 (h4.sub Sm)
 exact key a w hdf hsz hk (hme.perm hp.perm)
end
section
variable {P:Program} {w0:World} {gs:LN} {K:List (Nat × Value)} {L:List Ent}
theorem kO {t len elem size i ty:Nat} {k:IntKind} {x y:Operand} {cs:LV} {v:Value} [ArT P t len elem size] [OnT P elem] (hx:ev K x=some (.agg cs.toArray)) (hy:ev K y=some (.int k (i:Int))) (hi:i<len) (h1:size=1) (hc:cs[i]?=some v) :
  Does P w0 gs K L (.index t x y) ty v:=by
 intro a w hk _ o ho _;subst h1;have hu:∀ w,(underlying t).run P w=.ok (.array len elem) w:=fun w=>by simp[underlying,ArT.under (P:=P) (t:=t)]
 have hv:cs.toArray[i]?=some v:=by simpa using hc
 simp only[execOp,ho,hk.eval hx,hk.eval hy,Instr.index,asIntOf,Sem.run_bind,Sem.run_pure,Result.andThen_ok,hu];rw[if_pos ⟨by omega,by omega⟩];simp only[Sem.run_bind,ArT.size (P:=P) (t:=t),Result.andThen_ok,Sem.run_pure,Int.toNat_natCast,Nat.mul_one,part,OnT.agg (P:=P) (t:=elem) w,Bool.false_eq_true,if_false,hv]
end
@[irreducible] def shlW (k:IntKind) (m n:Int):Int:=k.wrap (m*2 ^ (min n.toNat k.bits))
@[irreducible] def shrW (k:IntKind) (m n:Int):Int:=m.fdiv (2 ^ (min n.toNat k.bits))
@[irreducible] def orW (k:IntKind) (m n:Int):Int:=k.wrap ((BitVec.ofInt k.bits m ||| BitVec.ofInt k.bits n).toNat)
@[irreducible] def xorW (k:IntKind) (m n:Int):Int:=k.wrap ((BitVec.ofInt k.bits m ^^^ BitVec.ofInt k.bits n).toNat)
@[irreducible] def andW (k:IntKind) (m n:Int):Int:=k.wrap ((BitVec.ofInt k.bits m &&& BitVec.ofInt k.bits n).toNat)
@[irreducible] def addW (k:IntKind) (m n:Int):Int:=k.wrap (m+n)
section
variable {P:Program} {w0:World} {gs:LN} {K:List (Nat × Value)} {L:List Ent}
theorem aeq {x y:Operand} {t yt ty:TypeId} {k k' : IntKind} {m n r:Int} (hx:ev K x=some (.int k m)) (hy:ev K y=some (.int k' n)) (hr:shlW k m n=r) (hn:0≤n):Does P w0 gs K L (.binOp .shl t x y yt) ty (.int k r):=sW hx hy hn (by rw[← hr,shlW])
theorem agw {x y:Operand} {t yt ty:TypeId} {k k' : IntKind} {m n r:Int} (hx:ev K x=some (.int k m)) (hy:ev K y=some (.int k' n)) (hr:shrW k m n=r) (hn:0≤n):Does P w0 gs K L (.binOp .shr t x y yt) ty (.int k r):=vo hx hy hn (by rw[← hr,shrW])
theorem ahD {x y:Operand} {t yt ty:TypeId} {k:IntKind} {m n r:Int} (hx:ev K x=some (.int k m)) (hy:ev K y=some (.int k n)) (hr:orW k m n=r):Does P w0 gs K L (.binOp .or t x y yt) ty (.int k r):=uK hx hy (by rw[← hr,orW])
theorem gQ {x y:Operand} {t yt ty:TypeId} {k:IntKind} {m n r:Int} (hx:ev K x=some (.int k m)) (hy:ev K y=some (.int k n)) (hr:xorW k m n=r):Does P w0 gs K L (.binOp .xor t x y yt) ty (.int k r):=jV hx hy (by rw[← hr,xorW])
theorem abh {x y:Operand} {t yt ty:TypeId} {k:IntKind} {m n r:Int} (hx:ev K x=some (.int k m)) (hy:ev K y=some (.int k n)) (hr:andW k m n=r):Does P w0 gs K L (.binOp .and t x y yt) ty (.int k r):=tY hx hy (by rw[← hr,andW])
theorem qa {x y:Operand} {t yt ty:TypeId} {k:IntKind} {m n r:Int} (hx:ev K x=some (.int k m)) (hy:ev K y=some (.int k n)) (hr:addW k m n=r):Does P w0 gs K L (.binOp .add t x y yt) ty (.int k r):=zi hx hy (by rw[← hr,addW])
end
theorem aet (v e:Nat) (m:Int) (hm:m=(e:Int)) (he:e≤32):shlW .u32 (v:Int) m=((v*2 ^ e%4294967296:Nat):Int):=by
 subst hm;rw[shlW];exact dN v e he
theorem af2 (v e:Nat) (m:Int) (hm:m=(e:Int)) (he:e≤32):shrW .u32 (v:Int) m=((v / 2 ^ e:Nat):Int):=by
 subst hm;rw[shrW];exact u5 he
theorem ahl {a b:Nat} (ha:a<4294967296) (hb:b<4294967296):orW .u32 (a:Int) (b:Int)=((a ||| b:Nat):Int):=by rw[orW];exact ab1 ha hb
theorem gu {a b:Nat} (ha:a<4294967296) (hb:b<4294967296):xorW .u32 (a:Int) (b:Int)=((a ^^^ b:Nat):Int):=by rw[xorW];exact bR ha hb
theorem abt {a b:Nat} (ha:a<4294967296) (hb:b<4294967296):andW .u32 (a:Int) (b:Int)=((a &&& b:Nat):Int):=by rw[andW];exact aeb ha hb
theorem qm (a b:Nat):addW .u32 (a:Int) (b:Int)=(((a+b)%4294967296:Nat):Int):=by rw[addW];exact adB a b
theorem getD_get {l:LN} {i:Nat} (h:i<l.length):l[i]?=some (l.getD i 0):=by simp[List.getD,h]
theorem ri {b:LN} {i:Nat} (h:i<b.length):(byC b)[i]?=some (.int .u8 ((b.getD i 0:Nat):Int)):=by
 rw[lM h];simp[List.getD,h]
theorem getD_lt {l:LN} {m:Nat} (h:∀ x∈l,x<m) (hm:0<m) (i:Nat):l.getD i 0<m:=by
 rcases Nat.lt_or_ge i l.length with h1|h1
 ·have:l.getD i 0=l[i]:=by simp[List.getD,h1]
  rw[this];exact h _ (List.getElem_mem h1)
 ·have:l.getD i 0=0:=by simp[List.getD,List.getElem?_eq_none h1]
  rw[this];exact hm
theorem u4 (b:LN):∀ i,(Sha.words b i).length=i
 | 0=>rfl
 | i+1=>by rw[Sha.words,List.length_append,u4 b i];rfl
theorem afQ {b:LN} (h:∀ x∈b,x<256) (i:Nat):Sha.w16 b i<4294967296:=by
 have h0:=getD_lt h Om (4*i);have h1:=getD_lt h Om (4*i+1);have h2:=getD_lt h Om (4*i+2);have h3:=getD_lt h Om (4*i+3);unfold Sha.w16;omega
theorem oE {b:LN} (h:∀ x∈b,x<256):∀ i,∀ x∈Sha.words b i,x<4294967296
 | 0=>by simp[Sha.words]
 | i+1=>by
  intro x hx;rw[Sha.words,List.mem_append] at hx
  rcases hx with hx|hx
  ·exact oE h i x hx
  ·have:x=if i<16 then Sha.w16 b i else Sha.wnext (Sha.words b i) i:=by simpa using hx
   rw[this];split
   ·exact afQ h i
   ·unfold Sha.wnext;exact Nat.mod_lt _ Om
theorem abe {x:Nat}:qY x [7,18] ^^^ x / 8=Sha.sig0 x:=by simp[qY,Sha.sig0]
theorem abc {x:Nat}:qY x [17,19] ^^^ x / 1024=Sha.sig1 x:=by simp[qY,Sha.sig1]
theorem aaq {x:Nat}:qY x [2,13,22]=Sha.Sig0 x:=by simp[qY,Sha.Sig0]
theorem aas {x:Nat}:qY x [6,11,25]=Sha.Sig1 x:=by simp[qY,Sha.Sig1]
theorem adk (b0 b1 b2 b3:Nat) (h1:b1<256) (h2:b2<256) (h3:b3<256):b0*16777216 ||| b1*65536 ||| b2*256 ||| b3=b0*16777216+b1*65536+b2*256+b3:=by
 have e1:=bF (v:=b0) (b:=b1*65536) (e:=24) Om;have e2:=bF (v:=b0*256+b1) (b:=b2*256) (e:=16) Om;have e3:=bF (v:=b0*65536+b1*256+b2) (b:=b3) (e:=8) Om;rw[show b0*16777216=b0*2 ^ 24 by omega,e1,show b0*2 ^ 24+b1*65536=(b0*256+b1)*2 ^ 16 by omega,e2,show (b0*256+b1)*2 ^ 16+b2*256=(b0*65536+b1*256+b2)*2 ^ 8 by omega,e3]
def mxW (r s:LN) (i:Nat):List Nat:=(Sha.addW r s).take i++r.drop i
theorem yU {r s:LN} (h:r.length=s.length):(Sha.addW r s).length=r.length:=by simp[Sha.addW,h]
theorem ac6 {r s:LN} {i:Nat} (h:r.length=s.length) (hi:i<r.length):(w3C (mxW r s i))[i]?=some (.int .u32 ((r.getD i 0:Nat):Int)):=by
 refine rS ?_;unfold mxW;have hl:((Sha.addW r s).take i).length=i:=by rw[List.length_take,yU h];omega
 rw[List.getElem?_append_right Om,hl,Nat.sub_self,List.getElem?_drop];exact getD_get hi
theorem aaY {A B:LV} {x y:Value}:over (A++x::B) A.length [y]=A++y::B:=by
 simp[over]
theorem aC {r s:LN} {i:Nat} (h:r.length=s.length) (hi:i<r.length):over (w3C (mxW r s i)) i [.int .u32 (((r.getD i 0+s.getD i 0)%4294967296:Nat):Int)]=w3C (mxW r s (i+1)):=by
 have hl:((Sha.addW r s).take i).length=i:=by rw[List.length_take,yU h];omega
 have hia:i<(Sha.addW r s).length:=by rw[yU h];exact hi
 have hel:(Sha.addW r s)[i]=(r.getD i 0+s.getD i 0)%4294967296:=by
  have h2:i<s.length:=by omega
  simp[Sha.addW,List.getD,hi,h2]
 unfold mxW;rw[List.drop_eq_getElem_cons hi,tp,List.take_succ_eq_append_getElem hia,tp,tp,hel];have hh:(w3C ((Sha.addW r s).take i)).length=i:=by rw[zy,hl]
 have:=aaY (A:=w3C ((Sha.addW r s).take i)) (B:=w3C (r.drop (i+1))) (x:=.int .u32 ((r[i]:Nat):Int)) (y:=.int .u32 (((r.getD i 0+s.getD i 0)%4294967296:Nat):Int));rw[hh] at this;rw[show w3C (r[i]::r.drop (i+1))=.int .u32 ((r[i]:Nat):Int)::w3C (r.drop (i+1)) from rfl,this];simp[w3C]
theorem aaN {r s:LN} (h:r.length=s.length):mxW r s r.length=Sha.addW r s:=by
 unfold mxW;rw[List.take_of_length_le (by rw[yU h];exact Nat.le_refl _),List.drop_length,List.append_nil]
theorem vI {s w:LN} (hs:s.length=8):∀ i,(Sha.rnds s w i).length=8
 | 0=>hs
 | i+1=>by
  have h:=vI (w:=w) hs i;rw[Sha.rnds];generalize Sha.rnds s w i=r at h
  match r,h with
  | [a,b,c,d,e,f,g,h],_=>rfl
theorem agA {s:LN} {k w:Nat} (h:∀ x∈s,x<4294967296) (h8:s.length=8):∀ x∈Sha.rnd s k w,x<4294967296:=by
 match s,h8 with
 | [a,b,c,d,e,f,g,hh],_ =>
  intro x hx;simp only[Sha.rnd,List.mem_cons,List.not_mem_nil,or_false] at hx;simp only[List.mem_cons,List.not_mem_nil,or_false] at h
  rcases hx with rfl|rfl|rfl|rfl|rfl|rfl|rfl|rfl
  ·exact Nat.mod_lt _ Om
  ·exact h _ Sm
  ·exact h _ Sm
  ·exact h _ Sm
  ·exact Nat.mod_lt _ Om
  ·exact h _ Sm
  ·exact h _ Sm
  ·exact h _ Sm
theorem bc {s w:LN} (h:∀ x∈s,x<4294967296) (h8:s.length=8):∀ i,∀ x∈Sha.rnds s w i,x<4294967296
 | 0=>h
 | i+1=>agA (bc h h8 i) (vI h8 i)
theorem eight {s:LN} (h:s.length=8):∃ a b c d e f g k,s=[a,b,c,d,e,f,g,k]:=by
 match s,h with
 | [a,b,c,d,e,f,g,k],_=>exact⟨a,b,c,d,e,f,g,k,rfl⟩
def ovN (l:LN) (off:Nat) (xs:LN):List Nat:=l.take off++xs++l.drop (off+xs.length)
theorem aeg (l:LN) (off:Nat) (xs:LN):over (byC l) off (byC xs)=byC (ovN l off xs):=by
 unfold over ovN;rw[z8,z8,jY,oZ,zd]
theorem qT {l xs:LN} {off:Nat} (h:off+xs.length≤l.length):(ovN l off xs).length=l.length:=by
 simp only[ovN,List.length_append,List.length_take,List.length_drop];omega
def wrK (n:Nat) (X:LN):Nat:=min X.length (64 - n%64)
theorem nf {n:Nat} {X:LN} (h:X≠[]):0<wrK n X:=by
 have:=List.length_pos_iff.2 h;have:=Nat.mod_lt n (show 0<64 by omega);unfold wrK;omega
def wr (s buf:LN) (n:Nat) (X:LN):List Nat × List Nat × Nat :=
 if h:X=[] then (s,buf,n) else
  wr (if n%64+wrK n X=64 then Sha.take s (ovN buf (n%64) (X.take (wrK n X))) else s) (ovN buf (n%64) (X.take (wrK n X))) (n+wrK n X) (X.drop (wrK n X))
termination_by X.length
decreasing_by
 have h1:=nf (n:=n) h;have:=List.length_pos_iff.2 h;rw[List.length_drop];omega
theorem mb (s buf:LN) (n:Nat):wr s buf n []=(s,buf,n):=by rw[wr];simp
theorem kH {s buf:LN} {n:Nat} {X:LN} (h:X≠[]):wr s buf n X=wr (if n%64+wrK n X=64 then Sha.take s (ovN buf (n%64) (X.take (wrK n X))) else s) (ovN buf (n%64) (X.take (wrK n X))) (n+wrK n X) (X.drop (wrK n X)):=by
 rw[wr];simp[h]
structure j8 (m s buf:LN) (n:Nat):Prop where
 n:n=m.length
 s:s=Sha.takes Sha.H0 m (m.length / 64)
 len:buf.length=64
 rest:buf.take (m.length%64)=m.drop (64*(m.length / 64))
theorem qp (s m Y:LN):∀ q,64*q≤m.length→Sha.takes s (m++Y) q=Sha.takes s m q
 | 0,_=>rfl
 | q+1,h=>by
  rw[Sha.takes,Sha.takes,qp s m Y q Om,List.drop_append_of_le_length Om,List.take_append_of_le_length (by rw[List.length_drop];omega)]
theorem j8.step {m s buf Y:LN} {n:Nat} (h:j8 m s buf n) (hY:n%64+Y.length≤64) (h0:0<Y.length) :
  j8 (m++Y) (if n%64+Y.length=64 then Sha.take s (ovN buf (n%64) Y) else s) (ovN buf (n%64) Y) (n+Y.length):=by
 obtain⟨hn,hs,hl,hr⟩:=h;subst hn;have hml:=Nat.mod_lt m.length (show 0<64 by omega);have hdm:=Nat.div_add_mod m.length 64;have hdl:(m++Y).drop (64*(m.length / 64))=m.drop (64*(m.length / 64))++Y:=List.drop_append_of_le_length Om;have hbl:(buf.take (m.length%64)).length=m.length%64:=by rw[List.length_take];omega
 have hov:(ovN buf (m.length%64) Y).take (m.length%64+Y.length)=m.drop (64*(m.length / 64))++Y:=by
  unfold ovN;rw[hr] at *;rw[List.take_append_of_le_length (by rw[List.length_append,hbl];omega),List.take_of_length_le (by rw[List.length_append,hbl];omega)]
 have hlen:(ovN buf (m.length%64) Y).length=64:=by rw[qT Om,hl]
 by_cases hf:m.length%64+Y.length=64
 ·rw[if_pos hf];have hq:(m++Y).length / 64=m.length / 64+1:=by rw[List.length_append];omega
  have hm:(m++Y).length%64=0:=by rw[List.length_append];omega
  refine⟨by rw[List.length_append],?_,hlen,?_⟩
  ·rw[hq,Sha.takes,qp _ _ _ _ Om,← hs,hdl];rw[hf,List.take_of_length_le Om] at hov;rw[← hov,List.take_of_length_le Om]
  ·rw[hm,hq,List.take_zero,List.drop_of_length_le (by rw[List.length_append];omega)]
 ·rw[if_neg hf];have hq:(m++Y).length / 64=m.length / 64:=by rw[List.length_append];omega
  have hm:(m++Y).length%64=m.length%64+Y.length:=by rw[List.length_append];omega
  refine⟨by rw[List.length_append],?_,hlen,?_⟩
  ·rw[hq,qp _ _ _ _ Om,hs]
  ·rw[hm,hq,hov,hdl]
theorem j8.wr:∀ (k:Nat) {m s buf X:LN} {n:Nat},X.length≤k→j8 m s buf n→j8 (m++X) (wr s buf n X).1 (wr s buf n X).2.1 (wr s buf n X).2.2
 | 0,m,s,buf,X,n,hk,h=>by
  have:X=[]:=List.eq_nil_of_length_eq_zero Om;subst this;rw[mb,List.append_nil];exact h
 | k+1,m,s,buf,X,n,hk,h=>by
  by_cases hX:X=[]
  ·subst hX;rw[mb,List.append_nil];exact h
  ·have hp:=nf (n:=n) hX;have hle:wrK n X≤X.length:=by unfold wrK;omega
   have hle2:n%64+wrK n X≤64:=by have:=Nat.mod_lt n (show 0<64 by omega);unfold wrK;omega
   have htl:(X.take (wrK n X)).length=wrK n X:=by rw[List.length_take];omega
   have hst:=h.step (Y:=X.take (wrK n X)) Om Om;rw[htl] at hst;have:=j8.wr k (X:=X.drop (wrK n X)) (by rw[List.length_drop];omega) hst;rw[kH hX];rw[List.append_assoc,List.take_append_drop] at this;exact this
theorem j8.nil {buf:LN} (h:buf.length=64):j8 [] Sha.H0 buf 0:=⟨rfl,rfl,h,rfl⟩
section
variable {P:Program} {w0:World} {gs:LN} {n:Nat} {ops:List Oper} {Q:Exit→Act→World→Prop} {K:List (Nat × Value)} {L:List Ent} {rest:List Oper}
theorem WO.ndp (k:(L.map Ent.g).Nodup→WO P w0 gs n ops Q K L rest):WO P w0 gs n ops Q K L rest:=fun a w h1 h2 h3 h4=>k h4.nodup a w h1 h2 h3 h4
theorem WC.ndp' {c:Code} (k:(L.map Ent.g).Nodup→WC P w0 gs n c Q K L):WC P w0 gs n c Q K L:=fun a w h1 h2 h3 h4=>k h4.nodup a w h1 h2 h3 h4
theorem WO.mine (k:(∀ e∈L,w0.heap.size≤e.g∨e.g∈gs)→WO P w0 gs n ops Q K L rest):WO P w0 gs n ops Q K L rest:=fun a w h1 h2 h3 h4=>k h4.mine a w h1 h2 h3 h4
theorem WC.mine {c:Code} (k:(∀ e∈L,w0.heap.size≤e.g∨e.g∈gs)→WC P w0 gs n c Q K L):WC P w0 gs n c Q K L:=fun a w h1 h2 h3 h4=>k h4.mine a w h1 h2 h3 h4
end
def RdP (v:Value) (X:LN) (w:World):Prop :=
 ∃ p c,v=.slice p X.length c∧X.length≤c∧c<9223372036854775808∧((p=none∧X=[])∨∃ b o,p=some ⟨b,o,none⟩∧b<w.heap.size∧Seg w b o (byC X))
theorem RdP.rdN {v:Value} {X:LN} {w0 w:World} {L:List Ent} {g:Nat} (h:RdP v X w0) (hg:w0.heap.size≤g) (hm:Mr w0 [] L w):RdN g v X.length (byC X) w:=by
 obtain⟨p,c,rfl,h1,h2,h3⟩:=h;refine⟨p,c,rfl,h1,h2,zd X,h3.imp (fun ⟨e1,e2⟩=>⟨e1,by rw[e2];rfl⟩) (fun ⟨b,o,e,hb,hs⟩=>⟨b,o,e,by omega,hs.mod hm.mod Sm⟩)⟩
theorem RdP.rd {v:Value} {X:LN} {w:World} (h:RdP v X w):Rd v X.length (byC X) w:=by
 obtain⟨p,c,rfl,h1,h2,h3⟩:=h;refine⟨p,c,rfl,h3.imp (fun ⟨e1,e2⟩=>⟨e1,by rw[e2];rfl,by rw[e2];rfl⟩) (fun ⟨b,o,e,_,hs⟩=>⟨b,o,e,hs⟩)⟩
theorem RdP.own {w0 w:World} {gs:LN} {L:List Ent} {g t c:Nat} {X:LN} {r:LV} (hm:Mr w0 gs L w) (h:Hs L g t (byC X++r)) (hc:X.length≤c) (hc2:c<9223372036854775808):RdP (.slice (some ⟨g,0,none⟩) X.length c) X w :=
 ⟨_,c,rfl,hc,hc2,.inr ⟨g,0,rfl,(hm.ok _ h.mem).lt,(h.seg hm).sub (k:=0) (m:=X.length) (by unfold cut;rw[List.drop_zero,List.take_append_of_le_length (by rw[zd];omega),List.take_of_length_le (by rw[zd];omega)])⟩⟩
theorem RdP.own0 {w0 w:World} {gs:LN} {L:List Ent} {g t c:Nat} {X:LN} (hm:Mr w0 gs L w) (h:Hs L g t (byC X)) (hc:X.length≤c) (hc2:c<9223372036854775808):RdP (.slice (some ⟨g,0,none⟩) X.length c) X w :=
 RdP.own (r:=[]) hm (by rw[List.append_nil];exact h) hc hc2
theorem RdP.ne {v:Value} {X:LN} {w:World} {g:Nat} (h:RdP v X w) (hg:∀ b o n c,v=.slice (some ⟨b,o,none⟩) n c→b≠g):RdN g v X.length (byC X) w:=by
 obtain⟨p,c,rfl,h1,h2,h3⟩:=h;refine⟨p,c,rfl,h1,h2,zd X,h3.imp (fun ⟨e1,e2⟩=>⟨e1,by rw[e2];rfl⟩) (fun ⟨b,o,e,hb,hs⟩=>⟨b,o,e,hg b o _ _ (by rw[e]),hs⟩)⟩
theorem RdN.own {w0 w:World} {gs:LN} {L:List Ent} {g gS t c:Nat} {X:LN} {r:LV} (hm:Mr w0 gs L w) (h:Hs L g t (byC X++r)) (hne:g≠gS) (hc:X.length≤c) (hc2:c<9223372036854775808):RdN gS (.slice (some ⟨g,0,none⟩) X.length c) X.length (byC X) w :=
 (RdP.own hm h hc hc2).ne (fun b o n c e=>by cases e;exact hne)
theorem RdN.own0 {w0 w:World} {gs:LN} {L:List Ent} {g gS t c:Nat} {X:LN} (hm:Mr w0 gs L w) (h:Hs L g t (byC X)) (hne:g≠gS) (hc:X.length≤c) (hc2:c<9223372036854775808):RdN gS (.slice (some ⟨g,0,none⟩) X.length c) X.length (byC X) w :=
 (RdP.own0 hm h hc hc2).ne (fun b o n c e=>by cases e;exact hne)
def z6 (vs:LV) (Ps:List (List Nat)) (w:World):Prop:=vs.length=Ps.length∧∀ (i:Nat) (v:Value) (X:LN),vs[i]?=some v→Ps[i]?=some X→RdP v X w
theorem z6.nil {w:World}:z6 [] [] w:=⟨rfl,fun i v X h1 _=>by simp at h1⟩
theorem z6.cons {v:Value} {vs:LV} {X:LN} {Ps:List (List Nat)} {w:World} (h:RdP v X w) (hs:z6 vs Ps w):z6 (v::vs) (X::Ps) w :=
 ⟨by simp[hs.1],fun i u Y h1 h2=>by
  cases i with
  | zero=>simp at h1 h2;subst h1;subst h2;exact h
  | succ i=>simp at h1 h2;exact hs.2 i u Y h1 h2⟩
theorem z6.snoc {v:Value} {vs:LV} {X:LN} {Ps:List (List Nat)} {w:World} (h:RdP v X w) (hs:z6 vs Ps w):z6 (vs++[v]) (Ps++[X]) w :=
 ⟨by simp[hs.1],fun i u Y h1 h2=>by
  have h0:=hs.1
  rcases Nat.lt_trichotomy i vs.length with hi|hi|hi
  ·rw[List.getElem?_append_left hi] at h1;rw[List.getElem?_append_left Om] at h2;exact hs.2 i u Y h1 h2
  ·rw[List.getElem?_append_right Om] at h1;rw[List.getElem?_append_right Om] at h2;rw[hi,Nat.sub_self] at h1;rw[show i - Ps.length=0 by omega] at h2;simp at h1 h2;subst h1;subst h2;exact h
  ·rw[List.getElem?_append_right Om] at h1;rw[List.getElem?_eq_none (by simp;omega)] at h1;cases h1⟩
def uV (s:LN) (n:Nat):List Nat:=be 4 s.length++s++be 4 n
def yM (Ps:List (List Nat)):List Nat:=Ps.flatMap fun p=>be 4 p.length++p
theorem pK (Ps:List (List Nat)) (X:LN):yM (Ps++[X])=yM Ps++be 4 X.length++X:=by simp[yM]
theorem qM {Ps:List (List Nat)} {i:Nat} {X:LN} (h:Ps[i]?=some X):yM (Ps.take (i+1))=yM (Ps.take i)++be 4 X.length++X:=by
 rw[List.take_add_one,h];exact pK _ _
theorem eA (Ps Qs:List (List Nat)):yM (Ps++Qs)=yM Ps++yM Qs:=by simp[yM]
def yG (s:LN) (Ps:List (List Nat)):List Nat:=uV s Ps.length++yM Ps
def hOf (s:LN) (Ps:List (List Nat)):List Nat:=Sha.sum (yG s Ps)
theorem yZ {wd x:Nat}:∀ b∈be wd x,b<256:=by
 intro b hb;unfold be at hb;obtain⟨j,_,rfl⟩:=List.mem_map.1 hb;exact Nat.mod_lt _ Om
theorem aba {Ps:List (List Nat)} {i:Nat} {X:LN} (h:Ps[i]?=some X):(yM (Ps.take i)).length+4+X.length≤(yM Ps).length:=by
 have h1:=qM h;have h2:=eA (Ps.take (i+1)) (Ps.drop (i+1));rw[List.take_append_drop] at h2;rw[h2,h1];simp only[List.length_append,zj];omega
theorem afU {l xs:LN} {off b:Nat} (h1:∀ y∈l,y<b) (h2:∀ y∈xs,y<b):∀ y∈ovN l off xs,y<b:=by
 intro y hy;unfold ovN at hy
 rcases List.mem_append.1 hy with hy|hy
 ·rcases List.mem_append.1 hy with hy|hy
  ·exact h1 y (List.mem_of_mem_take hy)
  ·exact h2 y hy
 ·exact h1 y (List.mem_of_mem_drop hy)
theorem acD:∀ (k:Nat) {s buf X:LN} {n:Nat},X.length≤k→(∀ y∈buf,y<256)→(∀ y∈X,y<256)→∀ y∈(wr s buf n X).2.1,y<256
 | 0,s,buf,X,n,hk,h1,h2=>by
  have:X=[]:=List.eq_nil_of_length_eq_zero Om;subst this;rw[mb];exact h1
 | k+1,s,buf,X,n,hk,h1,h2=>by
  by_cases hX:X=[]
  ·subst hX;rw[mb];exact h1
  ·have hp:=nf (n:=n) hX;have:=List.length_pos_iff.2 hX;rw[kH hX];exact acD k (by rw[List.length_drop];omega) (afU h1 (tG h2 _)) (vY h2 _)
def Qk (k:Act→World→Prop) (Q:Exit→Act→World→Prop):Exit→Act→World→Prop
 | .normal,a,w=>k a w
 | e,a,w=>Q e a w
theorem Qk.out {k:Act→World→Prop} {Q:Exit→Act→World→Prop} (h:LetsOut (Qk k Q)):LetsOut Q:=h
theorem afH {P:Program} {o:Oper} {a:Act} {w:World} {k:Act→World→Prop} {Q:Exit→Act→World→Prop} (h:o.wp P a w (fun a w=>Qk k Q .normal a w) (Qk k Q)):o.wp P a w k Q:=by
 unfold Oper.wp at *;generalize (execOp a.eval o).run P w=r at *;cases r with
 | ok n w' =>
  cases n<;>simp only[Oper.upon] at h ⊢<;>first|exact h|exact Calls.mono h (fun e w'' he=>by cases e<;>first|exact he|exact Qk.out he)
 | halt x w'=>cases x<;>simp only[Oper.upon] at h ⊢<;>exact h
theorem lQ {P:Program} {ops:Array Oper} {i:Nat} {o:Oper} {a:Act} {w:World} {k:Act→World→Prop} {Q:Exit→Act→World→Prop} (ho:ops[i]?=some o) (h:wpList P ops (Qk k Q) [o] a w):wpOp P ops Q i k a w:=by
 unfold wpOp;rw[ho];unfold wpList at h
 split at h
 ·rename_i hw;simp only[hw,if_true];exact h.imp (fun h=>afH h) (fun h=>⟨h.1,Qk.out h.2⟩)
 ·rename_i hw;simp only[hw];exact h
section
variable (P:Program) (w0:World) (gs:LN) (n:Nat) (ops:List Oper) (Q:Exit→Act→World→Prop) (K:List (Nat × Value)) (L:List Ent)
def WA (S:List Bool) (f:Nat):Prop:=∀ a w,a.defers=[]→a.tmps.size=n→Kn K a→Me w0 gs L w→wpAny P .any ops.toArray Q f S.toArray a w
def vt (S:List Bool) (f:Nat):List Nat→Prop
 | []=>True
 | i::r=>(∃ o,nth ops i=some o∧WO P w0 gs n ops (Qk (wpAny P .any ops.toArray Q f (S.set i true).toArray) Q) K L [o])∧vt S f r
end
section
variable {P:Program} {w0:World} {gs:LN} {n:Nat} {ops:List Oper} {Q:Exit→Act→World→Prop} {K:List (Nat × Value)} {L:List Ent}
theorem vt.at {S:List Bool} {f:Nat}:∀ {rs:LN},vt P w0 gs n ops Q K L S f rs→∀ i∈rs,∃ o,nth ops i=some o∧WO P w0 gs n ops (Qk (wpAny P .any ops.toArray Q f (S.set i true).toArray) Q) K L [o]
 | i::r,h,j,hj=>by
  rcases List.mem_cons.1 hj with rfl|hj
  ·exact h.1
  ·exact vt.at h.2 j hj
theorem WA.step {S:List Bool} {f:Nat} (rs:LN) (k:vt P w0 gs n ops Q K L S f rs) (hr:Region.ready .any ops.toArray S.toArray=rs:=by decide +kernel) (hne:rs≠[]:=by decide):WA P w0 gs n ops Q K L S (f+1):=by
 intro a w h1 h2 h3 h4;refine⟨fun h0=>absurd (hr.symm.trans h0) hne,fun i hi=>?_⟩;rw[hr] at hi;obtain⟨o,ho,hk⟩:=k.at i hi;have:=lQ (k:=wpAny P .any ops.toArray Q f (S.set i true).toArray) (Q:=Q) (ops:=ops.toArray) (i:=i) (o:=o) (P:=P) (by simpa [um] using ho) (hk a w h1 h2 h3 h4);simpa using this
theorem WA.done {S:List Bool} (k:WX w0 gs n .normal Q K L) (hr:Region.ready .any ops.toArray S.toArray=[]:=by decide +kernel):WA P w0 gs n ops Q K L S 0:=fun a w h1 h2 h3 h4=>⟨hr,k a w h1 h2 h3 h4⟩
theorem vt.nil {S:List Bool} {f:Nat}:vt P w0 gs n ops Q K L S f []:=trivial
theorem vt.cons {S:List Bool} {f i:Nat} {r:LN} {o:Oper} (k:WO P w0 gs n ops (Qk (wpAny P .any ops.toArray Q f (S.set i true).toArray) Q) K L [o]) (kr:vt P w0 gs n ops Q K L S f r) (ho:nth ops i=some o:=by rfl):vt P w0 gs n ops Q K L S f (i::r):=⟨⟨o,ho,k⟩,kr⟩
theorem WX.wa {S S' : List Bool} {f i:Nat} {Q' : Exit→Act→World→Prop} (k:WA P w0 gs n ops Q K L S' f) (hS:S.set i true=S':=by rfl):WX w0 gs n .normal (Qk (wpAny P .any ops.toArray Q f (S.set i true).toArray) Q') K L:=by
 subst hS;exact k
theorem WA.less {S:List Bool} {f:Nat} (K' : List (Nat × Value)) (L' : List Ent) (k:WA P w0 gs n ops Q K' L' S f)
  (hk:Kle K' K:=by (repeat (first|exact Kle.nil|refine Kle.cons rfl rfl ?_)))
  (hl:Lle L' L:=by (repeat (first|exact Lle.nil|refine Lle.c ?_))):WA P w0 gs n ops Q K L S f:=fun a w h1 h2 h3 h4=>k a w h1 h2 (hk.kn h3) (hl.me h4)
def bt:Nat→Nat→List Bool
 | 0,_=>[]
 | n+1,m=>(m%2 == 1)::bt n (m / 2)
theorem Me.drawn {w:World} {d:Nat} (h:Me w0 gs L w):Me w0 gs L { w with drawn:=d } :=
 ⟨⟨h.mod.os,h.mod.tape,h.mod.output,h.mod.size,h.mod.block⟩,h.ok,h.mine,h.nodup⟩
theorem WC.all {id:Nat} {l:List Oper} [Mix P] (k:WA P w0 gs n l Q K L (List.replicate l.length false) l.length):WC P w0 gs n (.region id l.toArray true) Q K L:=by
 intro a w h1 h2 h3 h4;refine wp_region_any Mix.out ?_;have:=k a { w with drawn:=w.drawn+1 } h1 h2 h3 h4.drawn;simpa using this
end
def FnI (P:Program) (f:FuncId) (args:LV) (g t:Nat) (C:List Value→Prop) (R:World→Prop) (v:Value):Prop :=
 ∀ w cs,C cs→(⟨g,t,cs⟩ : Ent).ok w→R w→Calls P f args.toArray w (fun e w'=>e=.returned v∧Mod [g] w w'∧∃ cs',C cs'∧(⟨g,t,cs'⟩ : Ent).ok w')
def afm (w:World) (g t:Nat) (C:List Value→Prop) (v:Value):Ending→World→Prop:=fun e w'=>e=.returned v∧Mod [g] w w'∧∃ cs',C cs'∧(⟨g,t,cs'⟩ : Ent).ok w'
theorem FnI.enter {P:Program} {n:Nat} {f:FuncId} {fn:Func} {c:Code} {args:LV} {g t:Nat} {C:List Value→Prop} {R:World→Prop} {v:Value} (hf:P.funcs[f]?=some fn) (hb:fn.body=some c) (hn:fn.ntmps=n) (hle:Nat.ble args.length n=true)
  (k:∀ w cs,C cs→R w→WC P w [g] n c (bodyPost P fn (afm w g t C v)) (kin args 0) [⟨g,t,cs⟩]):FnI P f args g t C R v:=by
 intro w cs hC hok hw;refine calls_of_wp hf hb ?_;have hle' : args.length≤n:=by simpa using hle
 refine k w cs hC hw _ w rfl (by simp[hn];omega) (fun t v hv=>?_) ⟨.refl _ _,by simpa using hok,by simp,by simp⟩;obtain⟨j,h1,h2⟩:=v6 args 0 t v hv;subst h1;have hj:j<args.length:=by
  rcases Nat.lt_or_ge j args.length with h|h
  ·exact h
  ·rw[List.getElem?_eq_none h] at h2;cases h2
 simp only[Nat.zero_add];rw[Array.getElem?_append_left (by simpa using hj)];simpa using h2
section
variable {P:Program} {w0:World} {gs:LN} {n:Nat} {ops:List Oper} {Q:Exit→Act→World→Prop} {K:List (Nat × Value)} {L:List Ent} {rest:List Oper}
variable {d:Nat} {op:Op} {ty:TypeId} {pos:String} {after:Array Edge} {gd:Option (Nat × Bool)}
theorem WO.callI {f:FuncId} [Cal P f] {x:Operand} {xs:Array Operand} {ats:Array TypeId} {aq fs ks aq' : List Value} {g t:Nat} {C:List Value→Prop} {cs:LV} {L2:List Ent} {R:World→Prop} {v:Value} (hc:FnI P f aq' g t C R v) (hx:ev K x=some (.func (.func f) fs.toArray ks.toArray))
  (ha:evs K xs.toList=some aq) (hh:fs++aq++ks=aq') (hp:Pk L g t cs L2) (hC:C cs) (hR:∀ w,Me w0 gs L w→R w) (ht:t≠0)
  (k:∀ cs',C cs'→WO P w0 gs n ops Q ((d,v)::K) (⟨g,t,cs'⟩::L2) rest) (hd:Nat.blt d n=true) (hw:wk ops K gd=some true) :
  WO P w0 gs n ops Q K L (⟨some d,.call { callee:=.value x,args:=xs,argTypes:=ats },ty,pos,after,gd⟩::rest):=by
 subst hh;intro a w hdf hsz hk hme;refine wpList_step fun F hF=>?_;rw[if_pos (yF (o:=⟨some d,.call { callee:=.value x,args:=xs,argTypes:=ats },ty,pos,after,gd⟩) hk hw)];have hd' : d<n:=by simpa [Nat.blt_eq] using hd
 unfold Oper.wp;rw[vr hk hx ha,Oper.upon_enter];have hme2:=hme.perm hp.perm;refine (hc w cs hC (hme2.ok _ Sm) (hR w hme)).mono ?_;rintro e w' ⟨rfl,hm,cs',hC',hok⟩;exact hF _ _ (k cs' hC' _ _ (by rw[put_defers];exact hdf) (by rw[yk];exact hsz) (hk.put Om v) (hme2.callM Rp.here hm hok ht))
theorem WX.retI {fn:Func} {g t:Nat} {C:List Value→Prop} {cs:LV} {v:Value} (hr:∀ a w,Kn K a→Me w0 [g] L w→(results fn a.tmps).run P w=.ok v w) (hN:Hs L g t cs) (hC:C cs):WX w0 [g] n .ret (bodyPost P fn (afm w0 g t C v)) K L:=fun a w h1 _ h3 h4 =>
 ⟨h1,v,hr a w h3 h4,rfl,h4.mod,cs,hC,h4.ok _ hN.mem⟩
end
theorem afP (x:Nat):Sha.be8 x=be 8 x:=by
 simp only[Sha.be8,be,List.range_succ,List.range_zero,List.nil_append,List.cons_append,List.map_cons,List.map_nil,Nat.reduceMul,Nat.reduceSub,Nat.reducePow,Nat.div_one]
def lR (n:Nat):List Nat:=128::List.replicate (Sha.pad n) 0++be 8 (8*n)
theorem ada {m:LN} (h:8*m.length<18446744073709551616):Sha.padded m=m++lR m.length:=by
 unfold Sha.padded lR;rw[Nat.mod_eq_of_lt h,afP];simp
theorem vi (n:Nat):(lR n).length=Sha.pad n+9:=by simp[lR,zj]
theorem ad5 (n:Nat):∀ x∈lR n,x<256:=by
 intro x hx;unfold lR at hx
 rcases List.mem_append.1 hx with hx|hx
 ·rcases List.mem_cons.1 hx with rfl|hx
  ·omega
  ·have:=List.eq_of_mem_replicate hx;omega
 ·unfold be at hx;obtain⟨j,_,rfl⟩:=List.mem_map.1 hx;exact Nat.mod_lt _ Om
theorem aap {n l:Nat} (h1:1≤l) (h2:l≤Sha.pad n+1):(n+l)%64=56↔l=Sha.pad n+1:=by
 unfold Sha.pad at *;omega
theorem uI (s:LN):(Sha.outs s).length=4*s.length:=by
 induction s with
 | nil=>rfl
 | cons x s ih =>
  have:Sha.outs (x::s)=[x / 16777216%256,x / 65536%256,x / 256%256,x%256]++Sha.outs s:=by simp[Sha.outs]
  rw[this,List.length_append,ih];simp;omega
theorem ae1 (s:LN):Sha.outs s=beL 4 s:=by
 unfold Sha.outs beL;congr 1;funext x;simp only[be,List.range_succ,List.range_zero,List.nil_append,List.cons_append,List.map_cons,List.map_nil,Nat.reduceMul,Nat.reduceSub,Nat.reducePow,Nat.div_one]
theorem abd {s:LN} {i:Nat} (h:i<4*s.length):(Sha.outs s)[i]?=some (s.getD (i / 4) 0 / 2 ^ (8*(3 - i%4))%256):=by
 have hi:i / 4<s.length:=by omega
 have hm:i%4<4:=Nat.mod_lt _ Om;have:=lE (wd:=4) hm hi;rw[ae1];rw[show i / 4*4+i%4=i by omega] at this;rw[this];simp[List.getD,hi]
def mpC (M:List (Value × Value)):List Value:=M.flatMap fun x=>[x.1,x.2]
abbrev mpE (g:Nat) (M:List (Value × Value)):Ent:=@Ent.mk g 0 (mpC M) mapK
theorem Lle.m {g:Nat} {M M' : List (Value × Value)} {L L' r:List Ent} (hr:Lle r L') (h:PkK mapK L g 0 (mpC M) L':=by repeat (first|exact Pk.here|apply Pk.there)) (e:M=M':=by rfl):Lle (mpE g M'::r) L:=⟨mpC M,L',h,by rw[e],hr⟩
end Sx
end
end Go.Proofs.YtiaibpcaloigkaaGreatDoor
