/- Part 29 of the proof. -/
import Derived.Test.YtiaibpcaloigkaaGreatDoorE13
import Derived.Recover
set_option linter.unusedSimpArgs false
set_option linter.unusedVariables false
namespace Go.Proofs.YtiaibpcaloigkaaGreatDoor
section
open Go Go.RowKit Go.BigFrame
namespace Sx
theorem WC.app {P:Program} {w0:World} {gs:LN} {n:Nat} {c:Code} {Q:Exit→Act→World→Prop} {K:List (Nat × Value)} {L:List Ent} (h:WC P w0 gs n c Q K L) {a:Act} {w:World} (h1:a.defers=[]) (h2:a.tmps.size=n) (h3:Kn K a) (h4:Me w0 gs L w):c.wp P Q a w:=h a w h1 h2 h3 h4
theorem WX.un {w0:World} {gs:LN} {n:Nat} {e:Exit} {Q:Exit→Act→World→Prop} {K:List (Nat × Value)} {L:List Ent} (k:∀ a w,a.defers=[]→a.tmps.size=n→Kn K a→Me w0 gs L w→Q e a w):WX w0 gs n e Q K L:=k
theorem WI.app {ro:Option Nat} {m:Nat} {P:Program} {w0:World} {gs:LN} {n:Nat} {c:Code} {Q:Exit→Act→World→Prop} {K:List (Nat × Value)} {L:List Ent} (h:WI ro m P w0 gs n c Q K L) {a:Act} {w:World} (h1:a.defers=[]) (h2:a.tmps.size=n) (h3:Kn K a) (h4:Me w0 gs L w):c.wpIn (fw ro) m P Q a w:=h a w h1 h2 h3 h4
theorem pG {P:Program} {f:FuncId} {fn:Func} {c:Code} {args:LV} {u u' : FrameMode} {w:World} {R:Ending→FrameMode→World→Prop} {n id d:Nat} {ty:TypeId} {pos:String} {after:Array Edge} {v:Value}
  (hf:P.funcs[f]?=some fn) (hb:fn.body=some (.seq (.region id #[⟨some d,.call { callee:=.builtin .recover,args:=#[],argTypes:=#[] },ty,pos,after,none⟩] false) c)) (hn:fn.ntmps=n) (hle:Nat.ble args.length n=true) (hd:Nat.blt d n=true)
  (hu:∀ (c0:Frame) (cs:List Frame),c0.mode=u→(recoverD (c0::cs)=some (v,{ c0 with mode:=u' }::cs))∨(recoverD (c0::cs)=none∧v=.nilIface∧u'=u))
  {gs:LN} {L:List Ent} (hme:Me w gs L w) (k:∀ (c0:Frame) (cs:List Frame),WC P w gs n c (fun e a w=>bodyPostS P fn c0 cs R e a ({ c0 with mode:=u' }::cs) w) ((d,v)::kin args 0) L):CallsD P f args.toArray u w R:=by
 subst hn;have hle' : args.length≤fn.ntmps:=by simpa using hle
 have hd' : d<fn.ntmps:=by simpa [Nat.blt_eq] using hd
 refine callsD_of_wpS hf hb fun c0 cs hm=>?_;obtain⟨a,ha⟩ : ∃ a:Act,a = { tmps:=args.toArray++Array.replicate (fn.ntmps - args.toArray.size) undef,defers:=[] }:=⟨_,rfl⟩;have a1:a.defers=[]:=by rw[ha]
 have a2:a.tmps.size=fn.ntmps:=by rw[ha];simp;omega
 have a3:Kn (kin args 0) a:=fun t x hv=>by
  have:=qI hle' t x hv;rw[ha];simpa using this
 rw[← ha];have hfin:=wpS_of_wp (k c0 cs (a.put (some d) v) w (by rw[put_defers];exact a1) (by rw[yn];exact a2) (a3.put Om v) hme);refine wpS_seq (wpS_region ?_);have hr:(execOp a.eval ⟨some d,.call { callee:=.builtin .recover,args:=#[],argTypes:=#[] },ty,pos,after,none⟩).run P w=.ok .recover w:=rfl;show wpOpsS P #[_] _ [0] a (c0::cs) w;unfold wpOpsS;have h0:(#[(⟨some d,.call { callee:=.builtin .recover,args:=#[],argTypes:=#[] },ty,pos,after,none⟩ : Oper)])[0]?=some ⟨some d,.call { callee:=.builtin .recover,args:=#[],argTypes:=#[] },ty,pos,after,none⟩:=rfl;simp only[h0];rw[if_pos (show Region.wanted (⟨some d,.call { callee:=.builtin .recover,args:=#[],argTypes:=#[] },ty,pos,after,none⟩ : Oper) _=true from rfl),hr]
 rcases hu c0 cs hm with h|⟨h,rfl,rfl⟩
 ·simp only[h];exact hfin
 ·simp only[h];have e:({ c0 with mode:=u' }:Frame)=c0:=by cases c0;cases hm;rfl
  rw[e] at hfin;exact hfin
theorem Me.tail {w0 w:World} {gs:LN} {e:Ent} {L:List Ent} (h:Me w0 gs (e::L) w):Me w0 gs L w:=⟨h.mod,fun x hx=>h.ok x (List.mem_cons_of_mem _ hx),fun x hx=>h.mine x (List.mem_cons_of_mem _ hx),(List.nodup_cons.1 h.nodup).2⟩
section
variable {P:Program} {w0:World} {gs:LN} {K:List (Nat × Value)} {L:List Ent}
theorem my {x y:Operand} {t yt ty u:TypeId} {v:Value} (hx:ev K x=some (.iface u v)) (hy:ev K y=some .nilIface) (hr:∀ w,(binOp .eql t (.iface u v) .nilIface).run P w=.ok (.bool false) w) (hg:∀ w,(eqGuard .eql t x y (.iface u v) .nilIface).run P w=.ok () w):Does P w0 gs K L (.binOp .eql t x y yt) ty (.bool false):=by
 intro a w hk _ o ho _;simp only[execOp,ho,hk.eval hx,hk.eval hy,Sem.run_bind,hg,Result.andThen_ok,hr,Sem.run_pure]
theorem mT {x y:Operand} {t yt ty:TypeId} (hx:ev K x=some .nilIface) (hy:ev K y=some .nilIface) (hr:∀ w,(binOp .eql t .nilIface .nilIface).run P w=.ok (.bool true) w) (hg:∀ w,(eqGuard .eql t x y .nilIface .nilIface).run P w=.ok () w):Does P w0 gs K L (.binOp .eql t x y yt) ty (.bool true):=by
 intro a w hk _ o ho _;simp only[execOp,ho,hk.eval hx,hk.eval hy,Sem.run_bind,hg,Result.andThen_ok,hr,Sem.run_pure]
theorem kc {x:Operand} {xt t ty:TypeId} {v r:Value} {b:Bool} (hx:ev K x=some v) (hr:∀ w,(Instr.typeAssert v xt t b).run P w=.ok r w):Does P w0 gs K L (.typeAssert x xt t b) ty r:=by
 intro a w hk _ o ho _;simp only[execOp,ho,hk.eval hx,Sem.run_bind,hr,Result.andThen_ok,Sem.run_pure]
theorem WO.defers {n:Nat} {ops:List Oper} {Q:Exit→Act→World→Prop} {f:FuncId} {x:Operand} {cs:LV} {ats:Array TypeId} {ty:TypeId} {pos:String} {after:Array Edge} (hx:ev K x=some (.func (.func f) #[] cs.toArray))
  (k:∀ a w,a.defers=[{ target:=.fn (.func f) cs.toArray,args:=#[] }]→a.tmps.size=n→Kn K a→Me w0 gs L w→Q .normal a w):WO P w0 gs n ops Q K L [⟨none,.defer { callee:=.value x,args:=#[],argTypes:=ats },ty,pos,after,none⟩]:=by
 intro a w hdf hsz hk hme;refine wpList_step fun F hF=>?_;rw[if_pos (show Region.wanted (⟨none,.defer { callee:=.value x,args:=#[],argTypes:=ats },ty,pos,after,none⟩ : Oper) _=true from rfl)];have hr:(execOp a.eval ⟨none,.defer { callee:=.value x,args:=#[],argTypes:=ats },ty,pos,after,none⟩).run P w=.ok (.defer { target:=.fn (.func f) cs.toArray,args:=#[] }) w:=by
  have e:=hk.eval hx;simp[execOp,resolve,e,Deferred.ofValue,Sem.run_bind,Sem.run_pure,Result.andThen]
 unfold Oper.wp;rw[hr];exact hF _ _ (k _ w (by simp[Act.put,hdf]) hsz (fun t v h=>hk t v h) hme)
end
end Sx
end
section
open Go Go.RowKit Go.BigFrame
namespace Sx
open Kp
section
variable {u:FuncId} {P:Program} {w0:World} {gs:LN} {n:Nat} {Q:Exit→Act→World→Prop} {K:List (Nat × Value)} {L:List Ent} {ds:List Deferred} {a:Act} {w:World}
def Qz (u:FuncId) (P:Program) (c:Code) (Q:Exit→Act→World→Prop) (ds:List Deferred):Exit→Act→World→Prop:=fun e a w=>Exit.then (WU u P c Q) Q e (dfA ds a) w
theorem WU.seqR {id:Nat} {l:List Oper} {c:Code} (hd:a.defers=ds) (hs:a.tmps.size=n) (hk:Kn K a) (hm:Me w0 gs L w) (k:WO P w0 gs n l (Qz u P c Q ds) K L l):WU u P (.seq (.region id l.toArray false) c) Q a w :=
 WU.seq (WU.reg hd hs hk hm k)
theorem WU.seqD {id:Nat} {l hd tl:List Oper} {c:Code} [Mix P] (h:Nat) (hdf:a.defers=ds) (hs:a.tmps.size=n) (hk:Kn K a) (hm:Me w0 gs L w) (k:DQ P w0 gs n [] (Qz u P c Q ds) l L tl 0 hd (fun _=>True) (fun _=>K) (fun _=>[]))
  (h1:l.take h=hd:=by (simp only[List.take_succ_cons,List.take_zero]<;>rfl)) (h2:l.drop h=tl:=by (simp only[List.drop_succ_cons,List.drop_zero]<;>rfl)) (hB:yQ l [] h=true:=by decide +kernel):WU u P (.seq (.region id l.toArray true) c) Q a w :=
 WU.seq (WU.draw h hdf hs hk hm k h1 h2 hB)
theorem WX.z {c:Code} (k:∀ a w,a.defers=ds→a.tmps.size=n→Kn K a→Me w0 gs L w→WU u P c Q a w):WX w0 gs n .normal (Qz u P c Q ds) K L:=fun a w h1 h2 h3 h4=>k (dfA ds a) w (by simp[dfA,h1]) h2 h3 h4
theorem WI.draw {ro:Option Nat} {m id:Nat} {l hd tl:List Oper} [Mix P] (h:Nat) (hQ:¬ LetsOut Q) (k:DQ P w0 gs n [] Q l L tl 0 hd (fun _=>True) (fun _=>K) (fun _=>[]))
  (h1:l.take h=hd:=by (simp only[List.take_succ_cons,List.take_zero]<;>rfl)) (h2:l.drop h=tl:=by (simp only[List.drop_succ_cons,List.drop_zero]<;>rfl)) (hB:yQ l [] h=true:=by decide +kernel) (hnd:tq l=true:=by rfl):WI ro m P w0 gs n (.region id l.toArray true) Q K L:=by
 intro a w g1 g2 g3 g4;subst h1;subst h2;obtain⟨ks,k1,k2,k3⟩:=k;refine wpIn_region_any Mix.out (qT hQ (rQ hnd) _ _ _ _ ?_);exact kl [] h ks hB (.inl rfl) (fun i=>k1 i (Nat.zero_le _)) (fun i s=>k2 i s (Nat.zero_le _)) (fun s=>k3 s a w (fun _ _=>True) [] trivial g1 g2 g3 g4 .nil Sm (fun _ _ _=>trivial) Sm Sm)
theorem WI.pan {ro:Option Nat} {m id p:Nat} {l:List Oper} {op:Oper} {T:List (Nat × Value)} [Mix P] (hQ:¬ LetsOut Q) (hc:agO l p (T.map Prod.fst) n=true) (hT:Tlq P w0 gs l K L T T) (hfree:((T.map Prod.fst).all fun i=>(lk K (rb l i)).isNone)=true) (hop:nth l p=some op)
  (hp:WO P w0 gs n l (Qk (fun _ _=>False) Q) (tvs l T (dps l p)++K) L [op]) (hnd:tq l=true:=by rfl):WI ro m P w0 gs n (.region id l.toArray true) Q K L:=by
 intro a w g1 g2 g3 g4;refine wpIn_region_any Mix.out (qT hQ (rQ hnd) _ _ _ _ ?_);have:=acZ hc hT hfree hop hp l.length (List.replicate l.length false) a { w with drawn:=w.drawn+1 } Sm Sm (fun i _ h=>by
  rw[List.getElem?_replicate] at h
  split at h<;>cases h) g1 g2 g3 (fun i v _ h=>by
  rw[List.getElem?_replicate] at h
  split at h<;>cases h) g4.drawn
 simpa using this
end
theorem Me.ownG {w0:World} {gs:LN} {L:List Ent} {A B:World} {row:Option Nat} {n:Nat} (h:Me w0 gs L A) (hn:w0.heap.size≤n) (hg:A.grownBy B row) (hr:∀ r,row=some r→n≤r∧∃ o:Obj,A.heap[r]?=some o∧o.isCells=false)
  (hk:(L.all fun e=>!e.k.map)=true:=by rfl):Me w0 gs L B:=h.ownM hn hg hr (fun e he hm=>by
 have:=List.all_eq_true.1 hk e he;rw[hm] at this;cases this)
theorem Marks.apart {w:World} {ds:List Deferred} {l:LN} (h:Marks w ds l) {e:Ent} (he:e.ok w):e.g ∉ l:=by
 induction h with
 | nil=>simp
 | cons h1 _ _ ih =>
  intro hm
  rcases List.mem_cons.1 hm with h2|h2
  ·have he:okK e.k.map e.g e.t e.cs w:=he;rw[h2] at he;generalize e.k.map=b at he;cases b with
   | false=>obtain⟨t,fr,h3,_⟩:=he;rw[h1] at h3;cases h3
   | true=>obtain⟨t,fr,h3,_⟩:=he;rw[h1] at h3;cases h3
  ·exact ih h2
theorem Me.marks {w0:World} {gs:LN} {L:List Ent} {W W' : World} {l:LN} (h:Me w0 gs L W) (hl:∀ D∈l,w0.heap.size≤D) (hL:∀ e∈L,e.g ∉ l) (h1:∀ k,k ∉ l→W'.heap[k]?=W.heap[k]?) (h2:W'.heap.size=W.heap.size) (h3:W'.os=W.os) (h4:W'.tape=W.tape) (h5:W'.output=W.output):Me w0 gs L W' :=
 ⟨⟨h3.trans h.mod.os,h4.trans h.mod.tape,h5.trans h.mod.output,by rw[h2];exact h.mod.size,fun k hk hk2=>(h1 k (fun hm=>by have:=hl k hm;omega)).trans (h.mod.block k hk hk2)⟩,fun e he=>(h.ok e he).keep (h1 e.g (hL e he)),h.mine,h.nodup⟩
section
variable {P:Program} {w0:World} {gs:LN} {n:Nat} {Q:Exit→Act→World→Prop} {K:List (Nat × Value)} {L:List Ent}
theorem WI.mainA {ro:Option Nat} {m id:Nat} {l:List Oper} [Mix P] (hQ:¬ LetsOut Q) (main:LN) (T:List (Nat × Value)) (hml:main.all (fun i=>decide (i<l.length))=true) (k:∀ A:List Nat→List (Nat × Value)→List Ent→Prop,(∀ D K L,A D K L↔WT P w0 gs n l Q main T D K L)→WT P w0 gs n l Q main T [] K L) (hnd:tq l=true:=by rfl):WI ro m P w0 gs n (.region id l.toArray true) Q K L:=by
 intro a w h1 h2 h3 h4;refine wpIn_region_any Mix.out (qT hQ (rQ hnd) _ _ _ _ ?_);have:=k _ (fun _ _ _=>Iff.rfl) l.length (List.replicate l.length false) a { w with drawn:=w.drawn+1 } ⟨by simp,by simp,fun m hq=>?_,fun i hi=>?_,h1,h2,h3,fun i v _ hi=>?_,h4.drawn⟩
 ·simpa using this
 ·have hm:m<l.length:=by
   have:=List.all_eq_true.1 hml m (by simpa using hq);simpa using this
  rw[List.getElem?_replicate,if_pos hm];simp
 ·rw[List.getElem?_replicate] at hi
  split at hi<;>simp at hi
 ·rw[List.getElem?_replicate] at hi
  split at hi<;>simp at hi
end
end Sx
end
section
open Go Go.RowKit Go.BigFrame
namespace Sx
section
variable {P:Program} {w0:World} {gs:LN} {n:Nat} {ops:List Oper} {Q:Exit→Act→World→Prop} {K:List (Nat × Value)} {L L' : List Ent} {rest:List Oper}
theorem WC.permL {c:Code} (hp:L.Perm L') (k:WC P w0 gs n c Q K L'):WC P w0 gs n c Q K L:=fun a w h1 h2 h3 h4=>k a w h1 h2 h3 (h4.perm hp)
end
inductive GS where
 | A:GS
 | B:Nat→Nat→List Value→List Value→GS
section
variable {β:Type} {A A' B:Nat→List β} {n i:Nat}
theorem uj {α β:Type} {f g:α→List β}:∀ {l:List α},(∀ x∈l,f x=g x)→l.flatMap f=l.flatMap g
 | [],_=>rfl
 | a::r,h=>by rw[List.flatMap_cons,List.flatMap_cons,h a Sm,uj (fun x hx=>h x (by simp[hx]))]
theorem range_split (h:i<n):List.range n=List.range i++i::List.range' (i+1) (n - (i+1)):=by
 rw[List.range_eq_range',List.range_eq_range'];have e1:List.range' 0 n=List.range' 0 i++List.range' i (n - i):=by
  have:=List.range'_append (s:=0) (m:=i) (n:=n - i) (step:=1);rw[Nat.zero_add,Nat.one_mul,show i+(n - i)=n by omega] at this;exact this.symm
 have e2:List.range' i (n - i)=i::List.range' (i+1) (n - (i+1)):=by
  rw[show n - i=(n - (i+1))+1 by omega];rfl
 rw[e1,e2]
end
theorem cL {k m:Nat} {z:LV} (h:m≤k):(mkz k z).drop (m*z.length)=mkz (k - m) z:=by
 have e:mkz k z=mkz m z++mkz (k - m) z:=by
  unfold mkz;rw[← List.flatten_append,List.replicate_append_replicate,show m+(k - m)=k by omega]
 rw[e,← z6 m z,List.drop_left]
section
variable {P:Program} {w0:World} {gs:LN} {n:Nat} {ops:List Oper} {Q:Exit→Act→World→Prop} {K:List (Nat × Value)} {L:List Ent} {rest:List Oper}
variable {d:Nat} {ty:TypeId} {pos:String} {after:Array Edge} {gd:Option (Nat × Bool)}
theorem WO.appKZ {st xt e size bts g len cap m l:Nat} {z xs ys:LV} {x y:Operand} {v:Value} {L2:List Ent} [SlT P st e size] [SlT P xt e size] [ElT P e bts z] (hs:size=z.length) (hx:ev K x=some (.slice (some ⟨g,0,none⟩) len cap)) (hy:ev K y=some v)
  (hxl:xs.length=len*z.length) (hlc:len≤cap) (hp:Pk L g e (xs++mkz (cap - len) z) L2) (hr:Rds w0 gs L v m ys) (hyl:ys.length=m*z.length) (h1:ys.all Value.oneCell'=true) (hl:len+m=l) (hlb:l<9223372036854775808) (hc:cap<9223372036854775808) (hnc:l*bts≤140737488355328) (hb:bts≠0) (ht:e≠0)
  (k:∀ g' c',c' < 9223372036854775808→l≤c'→WO P w0 gs n ops Q ((d,.slice (some ⟨g',0,none⟩) l c')::K) (⟨g',e,xs++ys++mkz (c' - l) z⟩::L2) rest) (hd:Nat.blt d n=true:=by rfl) (hw:wk ops K gd=some true:=by rfl) :
  WO P w0 gs n ops Q K L (⟨some d,.call { callee:=.builtin .append,args:=#[x,y],argTypes:=#[st,xt] },ty,pos,after,gd⟩::rest):=by
 subst hl;intro a w hdf hsz hk hme;have hr1:=hr.perm hp.perm;have key:WO P w0 gs n ops Q K (⟨g,e,xs++mkz (cap - len) z⟩::L2) (⟨some d,.call { callee:=.builtin .append,args:=#[x,y],argTypes:=#[st,xt] },ty,pos,after,gd⟩::rest):=by
  by_cases hroom:len+m≤cap
  ·have hle:(len+m)*z.length≤cap*z.length:=Nat.mul_le_mul_right _ hroom;have hcl:len*z.length+(cap - len)*z.length=cap*z.length:=by rw[← Nat.add_mul];congr 1;omega
   have hcap:(xs++mkz (cap - len) z).length=cap*z.length:=by rw[List.length_append,z6,hxl];exact hcl
   rw[Nat.add_mul] at hle;have hov:over (xs++mkz (cap - len) z) (len*z.length) ys=xs++ys++mkz (cap - (len+m)) z:=by
    rw[← hxl,tG,hyl,cL Om,show cap - len - m=cap - (len+m) by omega]
   exact WO.both (rr (s:=undef) (z:=z) hx hy hr1 hyl hroom h1 Rp.here hov (by rw[hcap,hyl];exact hle) hs ht) (k g cap hc hroom) hd hw
  ·refine WO.news (tF (z:=z) (n:=m) hx hy (ys:=xs) (Rds.own (m:=len*z.length) Hs.here (by unfold cut;rw[List.drop_zero,← hxl,List.take_left])) hxl hr1 hyl Om hlb (growslice_fits Om hnc) hb hs) (fun s hs=>?_) hd hw;have hk2:=k (s 0) (s 1) hs.2 hs.1;exact fun a w h1 h2 h3 h4=>hk2 a w h1 h2 h3 (h4.sub Sm)
 exact key a w hdf hsz hk (hme.perm hp.perm)
theorem WO.appNZ {st xt e size bts m:Nat} {z ys:LV} {x y:Operand} {v:Value} [SlT P st e size] [SlT P xt e size] [ElT P e bts z] (hs:size=z.length) (hx:ev K x=some (.slice none 0 0)) (hy:ev K y=some v)
  (hr:Rds w0 gs L v m ys) (hyl:ys.length=m*z.length) (hm:0<m) (hlb:m<9223372036854775808) (hnc:m*bts≤140737488355328) (hb:bts≠0)
  (k:∀ g' c',c' < 9223372036854775808→m≤c'→WO P w0 gs n ops Q ((d,.slice (some ⟨g',0,none⟩) m c')::K) (⟨g',e,ys++mkz (c' - m) z⟩::L) rest) (hd:Nat.blt d n=true:=by rfl) (hw:wk ops K gd=some true:=by rfl) :
  WO P w0 gs n ops Q K L (⟨some d,.call { callee:=.builtin .append,args:=#[x,y],argTypes:=#[st,xt] },ty,pos,after,gd⟩::rest):=by
 refine WO.news (tF (z:=z) (n:=m) hx hy (ys:=[]) Rds.nil Sm hr hyl Om Om (by rw[Nat.zero_add];exact growslice_fits Om hnc) hb hs) (fun s hs=>?_) hd hw;obtain⟨h1,h2⟩:=hs;rw[Nat.zero_add] at h1;rw[Nat.zero_add];have hk2:=k (s 0) (s 1) h2 h1;simpa using hk2
end
def d7 (j:Nat) (b:Bool) (o:Oper):Oper:=match o.guard with
 | none=>o
 | some (k,b')=>if k=j then (if b'=b then { o with guard:=none } else { o with op:=.move (.const undef),guard:=none }) else o
theorem ff (j:Nat) (b:Bool) (o:Oper):(d7 j b o).after=o.after:=by
 obtain⟨d,op,ty,pos,af,gd⟩:=o;cases gd with
 | none=>rfl
 | some g =>
  unfold d7;dsimp only;split
  ·split<;>rfl
  ·rfl
theorem jG (j:Nat) (b:Bool) (o:Oper):(d7 j b o).dst=o.dst:=by
 obtain⟨d,op,ty,pos,af,gd⟩:=o;cases gd with
 | none=>rfl
 | some g =>
  unfold d7;dsimp only;split
  ·split<;>rfl
  ·rfl
theorem po (j:Nat) (b:Bool) (ops:List Oper) (S:Array Bool):Region.ready .any (ops.map (d7 j b)).toArray S=Region.ready .any ops.toArray S:=by
 unfold Region.ready;simp only[List.size_toArray,List.length_map,List.getElem?_toArray,List.getElem?_map];refine List.filter_congr fun i _=>?_;cases h:ops[i]? with
 | none=>rfl
 | some o=>simp only[Option.map_some,ff]
theorem aeH {P:Program} {ops:List Oper} {Q:Exit→Act→World→Prop} {i j dj:Nat} {b:Bool} {k:Act→World→Prop} {a:Act} {w:World} {oj:Oper} (hoj:ops[j]?=some oj) (hdj:oj.dst=some dj) (ha:a.tmps[dj]?=some (.bool b))
  (h:wpOp P (ops.map (d7 j b)).toArray Q i k a w):wpOp P ops.toArray Q i k a w:=by
 have hy:yielded ops.toArray a.tmps j=some b:=by
  unfold yielded;simp only[List.getElem?_toArray,hoj,Option.bind_some,hdj,ha]
 have hy' : yielded (ops.map (d7 j b)).toArray a.tmps=yielded ops.toArray a.tmps:=by
  funext m;unfold yielded;simp only[List.getElem?_toArray,List.getElem?_map];cases ops[m]? with
  | none=>rfl
  | some o=>simp only[Option.map_some,Option.bind_some,jG]
 unfold wpOp at h ⊢;rw[hy'] at h;simp only[List.getElem?_toArray,List.getElem?_map] at h ⊢;cases ho:ops[i]? with
 | none=>rw[ho] at h;exact h
 | some o =>
  rw[ho] at h;simp only[Option.map_some] at h ⊢;obtain⟨d,op,ty,pos,after,gd⟩:=o;cases gd with
  | none=>exact h
  | some g =>
   obtain⟨m,b'⟩:=g;unfold d7 at h
   by_cases hm:m=j
   ·subst hm
    by_cases hb:b'=b
    ·subst hb;simp only[if_true] at h;simp only[Region.wanted,hy,beq_self_eq_true,if_true] at h ⊢;exact h
    ·simp only[if_true,if_neg hb] at h;have hne:(some b == some b')=false:=by simpa using fun e=>hb e.symm
     simp only[Region.wanted,hy,hne,if_true] at h ⊢
     rcases h with h|h
     ·exact h
     ·exact absurd h.1 (fun hh=>by
      have h0:=hh.1;simp only[execOp,Sem.run_pure] at h0;have e:∀ x:Next,((pure x:Sem Next).runT P w #[]).2=#[]:=fun _=>rfl;exact absurd h0 (by first|(rw[e];simp)|simp[Sem.events]|(intro h;cases h)))
   ·simp only[if_neg hm] at h;exact h
section
variable {P:Program} {w0:World} {gs:LN} {n:Nat} {ops:List Oper} {Q:Exit→Act→World→Prop} {main:LN} {T K:List (Nat × Value)} {L:List Ent} {D:LN}
theorem WA.strip {S:List Bool} {f:Nat} (j:Nat) (b:Bool) {dj:Nat} {oj:Oper} (hoj:ops[j]?=some oj) (hdj:oj.dst=some dj) (hap:((List.range ops.length).all fun i=>decide (i=j) || ((ops[i]?).map fun o=>decide (o.dst≠some dj)).getD true)=true) (hl:S.length=ops.length) (hS:S[j]?=some true) (hK:lk K dj=some (.bool b))
  (k:WA P w0 gs n (ops.map (d7 j b)) Q K L S f):WA P w0 gs n ops Q K L S f:=by
 have key:∀ (f:Nat) (S:List Bool) (a:Act) (w:World),S.length=ops.length→S[j]?=some true→a.tmps[dj]?=some (.bool b)→wpAny P .any (ops.map (d7 j b)).toArray Q f S.toArray a w→wpAny P .any ops.toArray Q f S.toArray a w:=by
  intro f
  induction f with
  | zero=>intro S a w _ _ _ h;unfold wpAny at h ⊢;rw[po] at h;exact h
  | succ f ih =>
   intro S a w hl hS ha h;unfold wpAny at h ⊢;rw[po] at h;refine⟨h.1,fun i hi=>?_⟩;obtain⟨hil,hiS,_⟩:=vM hl hi;have hij:i≠j:=fun e=>by subst e;rw[hS] at hiS;cases hiS
   have h1:=h.2 i hi;obtain⟨o,ho⟩ : ∃ o,ops[i]?=some o:=⟨_,List.getElem?_eq_getElem hil⟩;have hod:o.dst≠some dj:=by
    have:=List.all_eq_true.1 hap i (List.mem_range.2 hil);rw[ho] at this;simpa [hij] using this
   have h2:=mF (o:=d7 j b o) (by simp[ho]) h1;refine aeH hoj hdj ha (wpOp_mono (fun a' w' hh=>?_) h2);rw[List.setIfInBounds_toArray] at hh ⊢;exact ih (S.set i true) a' w' (by rw[List.length_set];exact hl) (by rw[List.getElem?_set_ne hij];exact hS) (by rw[hh.2 dj (by rw[jG];exact hod)];exact ha) hh.1
 exact fun a w h1 h2 h3 h4=>key f S a w hl hS (h3 dj _ hK) (k a w h1 h2 h3 h4)
theorem WT.wa {S:List Bool} {f:Nat} (k:WT P w0 gs n ops Q main T D K L) (hl:S.length=ops.length) (hf:S.count false≤f) (hD:(main.all fun m=>decide (S[m]?=some true) == D.contains m)=true)
  (hcl:((List.range ops.length).all fun i=>decide (S[i]?≠some true) || (dps ops i).all fun j=>decide (S[j]?=some true))=true) (hT:(T.all fun x=>decide (S[x.1]?≠some true))=true):WA P w0 gs n ops Q K L S f:=fun a w h1 h2 h3 h4 =>
 k f S a w ⟨hl,hf,fun m hm=>by
  have:=List.all_eq_true.1 hD m (by simpa using hm);rw[beq_iff_eq] at this;rw[← this];simp,fun i hi j hj=>by
  have hil:i<ops.length:=by
   rw[← hl];exact (List.getElem?_eq_some_iff.1 hi).1
  have:=List.all_eq_true.1 hcl i (List.mem_range.2 hil);simp only[hi,ne_eq,not_true_eq_false,decide_false,Bool.false_or] at this;simpa using List.all_eq_true.1 this j hj,h1,h2,h3,fun i v hv hi=>by
  obtain⟨x,hx,rfl⟩:=List.mem_map.1 (qN.1 ⟨v,hv⟩);have:=List.all_eq_true.1 hT _ hx;simp[hi] at this,h4⟩
end
section
variable {P:Program}
theorem Fn.enterD {n:Nat} {f:FuncId} {fn:Func} {c:Code} {args:LV} {R:World→Prop} {post:Value→List Ent→Prop} (hf:P.funcs[f]?=some fn) (hb:fn.body=some c) (hn:fn.ntmps=n) (hle:Nat.ble args.length n=true)
  (k:∀ w,R w→WC P w [] n c (bodyPostD P fn (ut w post)) (kin args 0) []):Fn P f args R post:=by
 intro w hw;refine calls_of_wp_defers hf hb ?_;have hle' : args.length≤n:=by simpa using hle
 refine k w hw _ w rfl (by simp[hn];omega) (fun t v hv=>?_) (Me.refl w []);obtain⟨j,h1,h2⟩:=ub args 0 t v hv;subst h1;have hj:j<args.length:=by
  rcases Nat.lt_or_ge j args.length with h|h
  ·exact h
  ·rw[List.getElem?_eq_none h] at h2;cases h2
 simp only[Nat.zero_add];rw[Array.getElem?_append_left (by simpa using hj)];simpa using h2
theorem nN {n:Nat} {f:FuncId} {fn:Func} {c:Code} {args:LV} {L:List Ent} {u:FrameMode} {w:World} {post:Value→List Ent→Prop} (hf:P.funcs[f]?=some fn) (hb:fn.body=some c) (hn:fn.ntmps=n) (hle:Nat.ble args.length n=true)
  (hok:∀ e∈L,e.ok w) (hnd:(L.map Ent.g).Nodup) (k:WC P w (L.map Ent.g) n c (bodyPost P fn (pQ w (L.map Ent.g) post)) (kin args 0) L):CallsD P f args.toArray u w (fun e u' w'=>u'=u∧pQ w (L.map Ent.g) post e w'):=by
 refine callsD_of_wp hf hb ?_;have hle' : args.length≤n:=by simpa using hle
 refine k _ w rfl (by simp[hn];omega) (fun t v hv=>?_) ⟨.refl _ _,hok,fun e he=>.inr (List.mem_map.2 ⟨e,he,rfl⟩),hnd⟩;obtain⟨j,h1,h2⟩:=ub args 0 t v hv;subst h1;have hj:j<args.length:=by
  rcases Nat.lt_or_ge j args.length with h|h
  ·exact h
  ·rw[List.getElem?_eq_none h] at h2;cases h2
 simp only[Nat.zero_add];rw[Array.getElem?_append_left (by simpa using hj)];simpa using h2
variable {w0:World} {gs:LN} {n:Nat} {ops:List Oper} {Q:Exit→Act→World→Prop} {main:LN} {T K:List (Nat × Value)} {L:List Ent} {D:LN}
theorem WO.defersA {f:FuncId} {x y:Operand} {cs:LV} {v:Value} {ats:Array TypeId} {ty:TypeId} {pos:String} {after:Array Edge} (hx:ev K x=some (.func (.func f) #[] cs.toArray)) (hy:ev K y=some v)
  (k:∀ a w,a.defers=[{ target:=.fn (.func f) cs.toArray,args:=#[v] }]→a.tmps.size=n→Kn K a→Me w0 gs L w→Q .normal a w):WO P w0 gs n ops Q K L [⟨none,.defer { callee:=.value x,args:=#[y],argTypes:=ats },ty,pos,after,none⟩]:=by
 intro a w hdf hsz hk hme;refine wpList_step fun F hF=>?_;rw[if_pos (show Region.wanted (⟨none,.defer { callee:=.value x,args:=#[y],argTypes:=ats },ty,pos,after,none⟩ : Oper) _=true from rfl)];have hr:(execOp a.eval ⟨none,.defer { callee:=.value x,args:=#[y],argTypes:=ats },ty,pos,after,none⟩).run P w=.ok (.defer { target:=.fn (.func f) cs.toArray,args:=#[v] }) w:=by
  have e:=hk.eval hx;have e2:=hk.eval hy;simp[execOp,resolve,e,e2,Deferred.ofValue,Sem.run_bind,Sem.run_pure,Result.andThen]
 unfold Oper.wp;rw[hr];exact hF _ _ (k _ w (by simp[Act.put,hdf]) hsz (fun t v h=>hk t v h) hme)
theorem WT.withD (Lc:List Ent) (hc:lm ops main (T.map Prod.fst) n=true) (hT:Tlv P w0 gs ops K Lc T [] T) (k:lm ops main (T.map Prod.fst) n=true→Tlv P w0 gs ops K Lc T [] T→WT P w0 gs n ops Q main T D K L):WT P w0 gs n ops Q main T D K L:=k hc hT
theorem Leaves.done {fn:Func} {post:Value→List Ent→Prop} {a:Act} {w:World} {v:Value} {N:List Ent} (hk:Kn K a) (hm:Me w0 [] L w) (hr:∀ a w,Kn K a→Me w0 [] L w→(results fn a.tmps).run P w=.ok v w) (hN:Lle N L) (hp:post v N):Leaves P fn a.tmps (ut w0 post) [] .returning w:=by
 have h:=hN.me hm;exact⟨v,hr a w hk hm,v,N,rfl,h.mod.below,fo.of_me h,hp⟩
end
end Sx
end
end Go.Proofs.YtiaibpcaloigkaaGreatDoor
