/- Part 7 of the proof. -/
import Derived.Test.YtiaibpcaloigkaaGreatDoorG05
import Derived.Test.YtiaibpcaloigkaaGreatDoorG06
set_option linter.unusedSimpArgs false
set_option linter.unusedVariables false
namespace Go.Proofs.YtiaibpcaloigkaaGreatDoor
section
open Go Go.RowKit
namespace Sx
instance:Cal Tryz.prog 201:=⟨fun _ _=>Kr⟩
instance:Cal Tryz.prog 258:=⟨fun _ _=>Kr⟩
instance:Cal Tryz.prog 259:=⟨fun _ _=>Kr⟩
instance:Cal Tryz.prog 274:=⟨fun _ _=>Kr⟩
end Sx
end
section
open Go Go.RowKit Go.BigFrame
namespace Sx
def RdF {α:Type} (f:α→List Value) (v:Value) (xs:List α) (w:World):Prop :=
 ∃ pt c,v=.slice pt xs.length c∧((pt=none∧xs=[])∨∃ b o,pt=some ⟨b,o,none⟩∧Seg w b o (xs.flatMap f))
theorem RdF.mod {α:Type} {f:α→List Value} {v:Value} {xs:List α} {w w' : World} (h:RdF f v xs w) (hm:Mod [] w w'):RdF f v xs w':=by
 obtain⟨pt,c,e,h⟩:=h;exact⟨pt,c,e,h.imp id (fun ⟨b,o,e2,hs⟩=>⟨b,o,e2,hs.mod hm Sm⟩)⟩
theorem RdF.seg {α:Type} {f:α→List Value} {xs:List α} {w:World} {b o c:Nat} {r:LV} (h:Seg w b o (xs.flatMap f++r)):RdF f (.slice (some ⟨b,o,none⟩) xs.length c) xs w :=
 ⟨_,c,rfl,.inr ⟨b,o,rfl,fun i v hv=>h i v (by rw[List.getElem?_append_left (by rcases Nat.lt_or_ge i (xs.flatMap f).length with h1|h1;exact h1;rw[List.getElem?_eq_none h1] at hv;cases hv)];exact hv)⟩⟩
theorem RdF.lt {α:Type} {f:α→List Value} {k:Nat} (hk:∀ x,(f x).length=k+1) {xs:List α} {w:World} {b o n c:Nat} (h:RdF f (.slice (some ⟨b,o,none⟩) n c) xs w) (hne:xs≠[]):b<w.heap.size:=by
 obtain⟨pt,c',e,h⟩:=h;cases e
 rcases h with ⟨h1,_⟩|⟨b',o',e2,hs⟩
 ·cases h1
 ·cases e2;cases xs with
  | nil=>exact absurd rfl hne
  | cons x r =>
   have hx:=hk x;cases hfx:f x with
   | nil=>rw[hfx] at hx;cases hx
   | cons v vs =>
    exact oT (hs 0 v (by simp[hfx]))
section
open Kp
variable {P:Program} {w0:World} {gs:LN} {n:Nat} {fl:LN} {Q:Exit→Act→World→Prop} {ops:List Oper} {L0:List Ent}
variable {tail rest:List Oper} {i:Nat} {C:zT→Prop} {K:zT→List (Nat × Value)} {N:zT→List (Nat × Ent)}
variable {d:Nat} {op:Op} {ty:TypeId} {pos:String} {after:Array Edge} {gd:Option (Nat × Bool)}
theorem DQ.acallM {f:FuncId} [Cal P f] {xs:Array Operand} {ats:Array TypeId} {vs:LV} {Rq:World→Prop} {v:Value} (hc:Fn P f vs Rq (Is v)) (hR:∀ w,Mr w0 gs L0 w→Rq w)
  (k:DQ P w0 gs n fl Q ops L0 tail (i+1) rest C (fun s=>(d,v)::K s) N) (ha:∀ s,evs (K s) xs.toList=some vs:=by (intro s;rfl))
  (hfl:fl.contains i=false:=by rfl) (hw:∀ s,wk ops (K s) gd=some true:=by intro _;rfl) (hd:Nat.blt d n=true:=by rfl) :
  DQ P w0 gs n fl Q ops L0 tail i (⟨some d,.call { callee:=.value (.func f),args:=xs,argTypes:=ats },ty,pos,after,gd⟩::rest) C K N :=
 DQ.callE (v:=fun _=>v) (fun _=>[]) (fun _=>.nil) (fun _ _=>hc) ha (fun _ _ w h=>hR w h) Dp.const k hfl hw hd
end
theorem zF {α:Type} {f:α→List Value} {k:Nat} (hk:∀ x,(f x).length=k):∀ xs:List α,(xs.flatMap f).length=xs.length*k
 | []=>by simp
 | x::r=>by simp[hk,zF hk r,Nat.add_mul];omega
theorem abU {z:LV} (m:Nat):(mkz (m+1) z).drop z.length=mkz m z:=by
 unfold mkz;rw[List.replicate_succ,List.flatten_cons,List.drop_left]
theorem mj {α:Type} {f:α→List Value} {xs:List α} {i m k:Nat} {x:α} {z:LV} (hk:∀ x,(f x).length=k) (hz:z.length=k) (hx:xs[i]?=some x) (hm:0<m) :
  over ((xs.take i).flatMap f++mkz m z) (i*z.length) (f x)=(xs.take (i+1)).flatMap f++mkz (m - 1) z:=by
 have hi:i<xs.length:=by
  rcases Nat.lt_or_ge i xs.length with h|h
  ·exact h
  ·rw[List.getElem?_eq_none h] at hx;cases hx
 have hl:((xs.take i).flatMap f).length=i*z.length:=by
  rw[zF hk,List.length_take,hz,Nat.min_eq_left Om]
 have e:=tL (xs:=(xs.take i).flatMap f) (r:=mkz m z) (ys:=f x);rw[hl] at e;rw[e,List.take_add_one,hx];obtain⟨m',rfl⟩ : ∃ m',m=m' + 1:=⟨m - 1,by omega⟩;have hd:=abU (z:=z) m';rw[show z.length=(f x).length by rw[hk,hz]] at hd;rw[hd];simp
section
variable {P:Program}
def nA (w:World) (gs:LN) (post:Value→List Ent→Prop):Ending→World→Prop:=fun e w'=>∃ v N,e=.returned v∧Me w gs N w'∧post v N
def FnL (P:Program) (f:FuncId) (args:LV) (L:List Ent) (R:World→Prop) (post:Value→List Ent→Prop):Prop :=
 ∀ w,(∀ e∈L,e.ok w)→(L.map Ent.g).Nodup→R w→Calls P f args.toArray w (nA w (L.map Ent.g) post)
theorem FnL.enter {n:Nat} {f:FuncId} {fn:Func} {c:Code} {args:LV} {L:List Ent} {R:World→Prop} {post:Value→List Ent→Prop} (hf:P.funcs[f]?=some fn) (hb:fn.body=some c) (hn:fn.ntmps=n) (hle:Nat.ble args.length n=true)
  (k:∀ w,R w→WC P w (L.map Ent.g) n c (bodyPost P fn (nA w (L.map Ent.g) post)) (kin args 0) L):FnL P f args L R post:=by
 intro w hok hnd hw;refine calls_of_wp hf hb ?_;have hle' : args.length≤n:=by simpa using hle
 refine k w hw _ w rfl (by simp[hn];omega) (fun t v hv=>?_) ⟨.refl _ _,hok,fun e he=>.inr (List.mem_map.2 ⟨e,he,rfl⟩),hnd⟩;obtain⟨j,h1,h2⟩:=v6 args 0 t v hv;subst h1;have hj:j<args.length:=by
  rcases Nat.lt_or_ge j args.length with h|h
  ·exact h
  ·rw[List.getElem?_eq_none h] at h2;cases h2
 simp only[Nat.zero_add];rw[Array.getElem?_append_left (by simpa using hj)];simpa using h2
theorem Fn.toL {f:FuncId} {args:LV} {R:World→Prop} {post:Value→List Ent→Prop} (h:Fn P f args R post):FnL P f args [] R post:=fun w _ _ hw =>
 (h w hw).mono fun _ _ ⟨v,N,e,hb,hn,hp⟩=>⟨v,N,e,⟨.of_below hb _,hn.ok,fun x hx=>.inl (hn.new x hx),hn.nodup⟩,hp⟩
theorem FnM.toL {f:FuncId} {args:LV} {g t:Nat} {cs cs' : List Value} {R:World→Prop} {v:Value} (h:FnM P f args g t cs cs' R v):FnL P f args [⟨g,t,cs⟩] R (fun u N=>u=v∧N=[⟨g,t,cs'⟩]):=fun w h1 _ hw =>
 (h w (h1 _ Sm) hw).mono fun _ _ ⟨e,hm,hok⟩=>⟨v,[⟨g,t,cs'⟩],e,⟨hm,by simpa using hok,by simp,by simp⟩,rfl,rfl⟩
inductive Pks:List Ent→List Ent→List Ent→Prop
 | nil {L:List Ent}:Pks L [] L
 | cons {L L1 M R:List Ent} {g t:Nat} {cs:LV}:Pk L g t cs L1→Pks L1 M R→Pks L (⟨g,t,cs⟩::M) R
theorem Pks.perm {L M R:List Ent} (h:Pks L M R):L.Perm (M++R):=by
 induction h with
 | nil=>exact .refl _
 | cons h1 _ ih=>exact h1.perm.trans (ih.cons _)
theorem Me.callL {w0 w w' : World} {gs:LN} {M R N:List Ent} (h:Me w0 gs (M++R) w) (hm:Me w (M.map Ent.g) N w'):Me w0 gs (N++R) w':=by
 have hnd:=h.nodup;rw[List.map_append,List.nodup_append] at hnd;have hR:∀ e∈R,e.ok w':=fun e he=>(h.ok e (List.mem_append_right _ he)).keep (hm.mod.block e.g (h.ok e (List.mem_append_right _ he)).lt (fun hg=>hnd.2.2 _ hg _ (List.mem_map.2 ⟨e,he,rfl⟩) rfl));refine⟨⟨hm.mod.os.trans h.mod.os,hm.mod.tape.trans h.mod.tape,hm.mod.output.trans h.mod.output,Nat.le_trans h.mod.size hm.mod.size,fun k hk hn=>?_⟩,fun e he=>?_,fun e he=>?_,?_⟩
 ·refine (hm.mod.block k (Nat.lt_of_lt_of_le hk h.mod.size) (fun hg=>?_)).trans (h.mod.block k hk hn);obtain⟨e,he,rfl⟩:=List.mem_map.1 hg
  rcases h.mine e (List.mem_append_left _ he) with h1|h1
  ·omega
  ·exact hn h1
 ·rcases List.mem_append.1 he with he|he
  ·exact hm.ok e he
  ·exact hR e he
 ·rcases List.mem_append.1 he with he|he
  ·rcases hm.mine e he with h1|h1
   ·exact .inl (Nat.le_trans h.mod.size h1)
   ·obtain⟨e',he',hg⟩:=List.mem_map.1 h1;rw[← hg];exact h.mine e' (List.mem_append_left _ he')
  ·exact h.mine e (List.mem_append_right _ he)
 ·rw[List.map_append,List.nodup_append];refine⟨hm.nodup,hnd.2.1,fun x hx y hy e=>?_⟩;obtain⟨e1,he1,rfl⟩:=List.mem_map.1 hx;obtain⟨e2,he2,rfl⟩:=List.mem_map.1 hy;have h2:=(h.ok e2 (List.mem_append_right _ he2)).lt
  rcases hm.mine e1 he1 with h1|h1
  ·omega
  ·exact hnd.2.2 _ h1 _ (List.mem_map.2 ⟨e2,he2,rfl⟩) e
end
section
variable {P:Program} {w0:World} {gs:LN} {n:Nat} {ops:List Oper} {Q:Exit→Act→World→Prop} {K:List (Nat × Value)} {L:List Ent} {rest:List Oper}
variable {d:Nat} {op:Op} {ty:TypeId} {pos:String} {after:Array Edge} {gd:Option (Nat × Bool)}
theorem WO.callsLV {f:FuncId} [Cal P f] {x:Operand} {xs:Array Operand} {ats:Array TypeId} {ar fs cs ar' : List Value} {M R:List Ent} {Rq:World→Prop} {post:Value→List Ent→Prop} (hc:FnL P f ar' M Rq post) (hx:ev K x=some (.func (.func f) fs.toArray cs.toArray)) (ha:evs K xs.toList=some ar) (hh:fs++ar++cs=ar')
  (hp:Pks L M R) (hR:∀ w,Mr w0 gs L w→Rq w) (k:∀ v N,post v N→WO P w0 gs n ops Q ((d,v)::K) (N++R) rest) (hd:Nat.blt d n=true:=by rfl) (hw:wk ops K gd=some true:=by rfl) :
  WO P w0 gs n ops Q K L (⟨some d,.call { callee:=.value x,args:=xs,argTypes:=ats },ty,pos,after,gd⟩::rest):=by
 intro a w hdf hsz hk hme;refine wpList_step fun F hF=>?_;rw[if_pos (yF (o:=⟨some d,.call { callee:=.value x,args:=xs,argTypes:=ats },ty,pos,after,gd⟩) hk hw)];have hd' : d<n:=by simpa [Nat.blt_eq] using hd
 have hme':=hme.perm hp.perm;have hnd:=hme'.nodup;rw[List.map_append,List.nodup_append] at hnd;unfold Oper.wp;subst hh;rw[vr hk hx ha,Oper.upon_enter];refine (hc w (fun e he=>hme'.ok e (List.mem_append_left _ he)) hnd.1 (hR w hme.mr)).mono ?_;rintro e w' ⟨v,N,rfl,hm,hq⟩;exact hF _ _ (k v N hq _ _ (by rw[put_defers];exact hdf) (by rw[yk];exact hsz) (hk.put Om v) (hme'.callL hm))
theorem WO.callsL {f:FuncId} [Cal P f] {xs:Array Operand} {ats:Array TypeId} {ar:LV} {M R:List Ent} {Rq:World→Prop} {post:Value→List Ent→Prop} (hc:FnL P f ar M Rq post)
  (hR:∀ w,Mr w0 gs L w→Rq w) (k:∀ v N,post v N→WO P w0 gs n ops Q ((d,v)::K) (N++R) rest) (ha:evs K xs.toList=some ar:=by rfl) (hp:Pks L M R:=by (repeat (first|exact Pks.nil|refine Pks.cons Pk.a ?_))) (hd:Nat.blt d n=true:=by rfl) (hw:wk ops K gd=some true:=by rfl) :
  WO P w0 gs n ops Q K L (⟨some d,.call { callee:=.value (.func f),args:=xs,argTypes:=ats },ty,pos,after,gd⟩::rest) :=
 WO.callsLV (fs:=[]) (cs:=[]) hc rfl ha Sm hp hR k hd hw
theorem WX.retP_of {fn:Func} {v:Value} {N:List Ent} {post:Value→List Ent→Prop} (hr:∀ a w,Kn K a→Me w0 gs L w→(results fn a.tmps).run P w=.ok v w) (hN:Lle N L) (hp:post v N):WX w0 gs n .ret (bodyPost P fn (nA w0 gs post)) K L:=fun a w h1 _ h3 h4 =>
 ⟨h1,v,hr a w h3 h4,v,N,rfl,hN.me h4,hp⟩
theorem WX.retP_ofN {fn:Func} {v:Value} {N:List Ent} {post:Value→List Ent→Prop} (hr:∀ a w,Kn K a→Me w0 gs L w→(results fn a.tmps).run P w=.ok v w) (hN:Lle N L) (hp:post v N):WX w0 gs n .normal (bodyPost P fn (nA w0 gs post)) K L:=fun a w h1 _ h3 h4 =>
 ⟨h1,v,hr a w h3 h4,v,N,rfl,hN.me h4,hp⟩
theorem qA {fn:Func} (hfn:fn.results=#[]) (a:Act) (w:World) (_:Kn K a) (_:Me w0 gs L w):(results fn a.tmps).run P w=.ok (.tuple #[]) w:=by
 rw[yz,hfn];simp
theorem abT {fn:Func} {r:ResultVar} {v:Value} (hfn:fn.results=#[r]) (hr:Rv P w0 gs K L r v) (a:Act) (w:World) (hk:Kn K a) (hme:Me w0 gs L w):(results fn a.tmps).run P w=.ok v w:=by
 have h:=ac8 (hr a w hk hme);rw[yz,hfn,Sem.run_bind,h];rfl
end
section
variable {P:Program} {w0:World} {gs:LN} {K:List (Nat × Value)} {L:List Ent}
theorem zO {x y:Operand} {t yt ty:TypeId} {k:IntKind} {m n:Int} (hx:ev K x=some (.int k m)) (hy:ev K y=some (.int k n)) (h:m=n):Does P w0 gs K L (.binOp .eql t x y yt) ty (.bool true):=by
 have:=nb (P:=P) (w0:=w0) (gs:=gs) (L:=L) (t:=t) (yt:=yt) (ty:=ty) hx hy;rw[decide_eq_true h] at this;exact this
theorem zR {x y:Operand} {t yt ty:TypeId} {k:IntKind} {m n:Int} (hx:ev K x=some (.int k m)) (hy:ev K y=some (.int k n)) (h:m≠n):Does P w0 gs K L (.binOp .eql t x y yt) ty (.bool false):=by
 have:=nb (P:=P) (w0:=w0) (gs:=gs) (L:=L) (t:=t) (yt:=yt) (ty:=ty) hx hy;rw[decide_eq_false h] at this;exact this
theorem yR {x y:Operand} {t yt ty:TypeId} {k:IntKind} {m n:Int} (hx:ev K x=some (.int k m)) (hy:ev K y=some (.int k n)) (h:m≠n):Does P w0 gs K L (.binOp .neq t x y yt) ty (.bool true):=by
 have:=oI (P:=P) (w0:=w0) (gs:=gs) (L:=L) (t:=t) (yt:=yt) (ty:=ty) hx hy;rw[decide_eq_true h] at this;exact this
theorem zA {x y:Operand} {t yt ty:TypeId} {k:IntKind} {m n:Int} (hx:ev K x=some (.int k m)) (hy:ev K y=some (.int k n)) (h:m=n):Does P w0 gs K L (.binOp .neq t x y yt) ty (.bool false):=by
 have:=oI (P:=P) (w0:=w0) (gs:=gs) (L:=L) (t:=t) (yt:=yt) (ty:=ty) hx hy;rw[decide_eq_false (fun hn=>hn h)] at this;exact this
theorem tc {x y:Operand} {t yt ty:TypeId} {k:IntKind} {m n:Int} (hx:ev K x=some (.int k m)) (hy:ev K y=some (.int k n)) (h:n<m):Does P w0 gs K L (.binOp .gtr t x y yt) ty (.bool true):=by
 have:=oC (P:=P) (w0:=w0) (gs:=gs) (L:=L) (t:=t) (yt:=yt) (ty:=ty) hx hy;rw[decide_eq_true h] at this;exact this
theorem yn {x y:Operand} {t yt ty:TypeId} {k:IntKind} {m n:Int} (hx:ev K x=some (.int k m)) (hy:ev K y=some (.int k n)) (h:¬ n<m):Does P w0 gs K L (.binOp .gtr t x y yt) ty (.bool false):=by
 have:=oC (P:=P) (w0:=w0) (gs:=gs) (L:=L) (t:=t) (yt:=yt) (ty:=ty) hx hy;rw[decide_eq_false h] at this;exact this
theorem vy {x y:Operand} {t yt ty:TypeId} {k:IntKind} {m n:Int} (hx:ev K x=some (.int k m)) (hy:ev K y=some (.int k n)) (h:m<n):Does P w0 gs K L (.binOp .lss t x y yt) ty (.bool true):=by
 have:=nz (P:=P) (w0:=w0) (gs:=gs) (L:=L) (t:=t) (yt:=yt) (ty:=ty) hx hy;rw[decide_eq_true h] at this;exact this
theorem z7 {x y:Operand} {t yt ty:TypeId} {k:IntKind} {m n:Int} (hx:ev K x=some (.int k m)) (hy:ev K y=some (.int k n)) (h:¬ m<n):Does P w0 gs K L (.binOp .lss t x y yt) ty (.bool false):=by
 have:=nz (P:=P) (w0:=w0) (gs:=gs) (L:=L) (t:=t) (yt:=yt) (ty:=ty) hx hy;rw[decide_eq_false h] at this;exact this
theorem yP {x y:Operand} {t yt ty:TypeId} {k:IntKind} {m n:Int} (hx:ev K x=some (.int k m)) (hy:ev K y=some (.int k n)) (h:n≤m):Does P w0 gs K L (.binOp .geq t x y yt) ty (.bool true):=by
 have:=oh (P:=P) (w0:=w0) (gs:=gs) (L:=L) (t:=t) (yt:=yt) (ty:=ty) hx hy;rw[decide_eq_true h] at this;exact this
theorem zY {x y:Operand} {t yt ty:TypeId} {k:IntKind} {m n:Int} (hx:ev K x=some (.int k m)) (hy:ev K y=some (.int k n)) (h:¬ n≤m):Does P w0 gs K L (.binOp .geq t x y yt) ty (.bool false):=by
 have:=oh (P:=P) (w0:=w0) (gs:=gs) (L:=L) (t:=t) (yt:=yt) (ty:=ty) hx hy;rw[decide_eq_false h] at this;exact this
theorem nE {x y:Operand} {t yt ty:TypeId} {k:IntKind} {m n:Int} (hx:ev K x=some (.int k m)) (hy:ev K y=some (.int k n)) (h:m≤n):Does P w0 gs K L (.binOp .leq t x y yt) ty (.bool true):=by
 have:=o6 (P:=P) (w0:=w0) (gs:=gs) (L:=L) (t:=t) (yt:=yt) (ty:=ty) hx hy;rw[decide_eq_true h] at this;exact this
theorem rW {x y:Operand} {t yt ty:TypeId} {k:IntKind} {m n:Int} (hx:ev K x=some (.int k m)) (hy:ev K y=some (.int k n)) (h:¬ m≤n):Does P w0 gs K L (.binOp .leq t x y yt) ty (.bool false):=by
 have:=o6 (P:=P) (w0:=w0) (gs:=gs) (L:=L) (t:=t) (yt:=yt) (ty:=ty) hx hy;rw[decide_eq_false h] at this;exact this
end
section
variable {P:Program} {w0:World} {gs:LN} {n:Nat} {ops:List Oper} {Q:Exit→Act→World→Prop} {K:List (Nat × Value)} {L:List Ent} {rest:List Oper}
variable {d:Nat} {ty:TypeId} {pos:String} {after:Array Edge} {gd:Option (Nat × Bool)}
theorem WO.appK {st xt e size bts g len cap m l:Nat} {z xs r ys:LV} {x y:Operand} {v:Value} {L2:List Ent} [SlT P st e size] [SlT P xt e size] [ElT P e bts z] (hs:size=z.length) (hx:ev K x=some (.slice (some ⟨g,0,none⟩) len cap)) (hy:ev K y=some v)
  (hxl:xs.length=len*z.length) (hcap:(xs++r).length=cap*z.length) (hp:Pk L g e (xs++r) L2) (hr:Rds w0 gs L v m ys) (hyl:ys.length=m*z.length) (h1:ys.all Value.oneCell'=true) (hl:len+m=l) (hlb:l<9223372036854775808) (hc:cap<9223372036854775808) (hnc:l*bts≤140737488355328) (hb:bts≠0) (ht:e≠0)
  (k:∀ g' c' r',(xs++ys++r').length=c' * z.length→c' < 9223372036854775808→l≤c'→WO P w0 gs n ops Q ((d,.slice (some ⟨g',0,none⟩) l c')::K) (⟨g',e,xs++ys++r'⟩::L2) rest) (hd:Nat.blt d n=true:=by rfl) (hw:wk ops K gd=some true:=by rfl) :
  WO P w0 gs n ops Q K L (⟨some d,.call { callee:=.builtin .append,args:=#[x,y],argTypes:=#[st,xt] },ty,pos,after,gd⟩::rest):=by
 subst hl;intro a w hdf hsz hk hme;have hr1:=hr.perm hp.perm;have key:WO P w0 gs n ops Q K (⟨g,e,xs++r⟩::L2) (⟨some d,.call { callee:=.builtin .append,args:=#[x,y],argTypes:=#[st,xt] },ty,pos,after,gd⟩::rest):=by
  by_cases hroom:len+m≤cap
  ·have hle:(len+m)*z.length≤cap*z.length:=Nat.mul_le_mul_right _ hroom;rw[Nat.add_mul] at hle;have hov:over (xs++r) (len*z.length) ys=xs++ys++r.drop ys.length:=by rw[← hxl];exact tL
   refine WO.both (rj (s:=undef) (z:=z) hx hy hr1 hyl hroom h1 Rp.here hov (by rw[hcap,hyl];exact hle) hs ht) (k g cap (r.drop ys.length) ?_ hc hroom) hd hw;simp only[List.length_append,List.length_drop] at hcap ⊢;omega
  ·refine WO.news (tw (z:=z) (n:=m) hx hy (ys:=xs) (Rds.own (m:=len*z.length) Hs.here (by unfold cut;rw[List.drop_zero,← hxl,List.take_left])) hxl hr1 hyl Om hlb (growslice_fits Om hnc) hb hs) (fun s hs=>?_) hd hw;have e1:len*z.length+m*z.length+(s 1 - (len+m))*z.length=s 1*z.length:=by
    rw[← Nat.add_mul,← Nat.add_mul];congr 1;have:=hs.1;omega
   have hk2:=k (s 0) (s 1) (mkz (s 1 - (len+m)) z) (by rw[List.length_append,List.length_append,zV,hxl,hyl];exact e1) hs.2 hs.1;exact fun a w h1 h2 h3 h4=>hk2 a w h1 h2 h3 (h4.sub Sm)
 exact key a w hdf hsz hk (hme.perm hp.perm)
theorem WO.appN {st xt e size bts m:Nat} {z ys:LV} {x y:Operand} {v:Value} [SlT P st e size] [SlT P xt e size] [ElT P e bts z] (hs:size=z.length) (hx:ev K x=some (.slice none 0 0)) (hy:ev K y=some v)
  (hr:Rds w0 gs L v m ys) (hyl:ys.length=m*z.length) (hm:0<m) (hlb:m<9223372036854775808) (hnc:m*bts≤140737488355328) (hb:bts≠0)
  (k:∀ g' c' r',(ys++r').length=c' * z.length→c' < 9223372036854775808→m≤c'→WO P w0 gs n ops Q ((d,.slice (some ⟨g',0,none⟩) m c')::K) (⟨g',e,ys++r'⟩::L) rest) (hd:Nat.blt d n=true:=by rfl) (hw:wk ops K gd=some true:=by rfl) :
  WO P w0 gs n ops Q K L (⟨some d,.call { callee:=.builtin .append,args:=#[x,y],argTypes:=#[st,xt] },ty,pos,after,gd⟩::rest):=by
 refine WO.news (tw (z:=z) (n:=m) hx hy (ys:=[]) Rds.nil Sm hr hyl Om Om (by rw[Nat.zero_add];exact growslice_fits Om hnc) hb hs) (fun s hs=>?_) hd hw;obtain⟨h1,h2⟩:=hs;rw[Nat.zero_add] at h1;rw[Nat.zero_add];have e1:m*z.length+(s 1 - m)*z.length=s 1*z.length:=by
  rw[← Nat.add_mul];congr 1;omega
 have hk2:=k (s 0) (s 1) (mkz (s 1 - m) z) (by rw[List.length_append,zV,hyl];exact e1) h2 h1;simpa using hk2
end
section
variable {P:Program} {w0:World} {gs:LN} {n:Nat} {ops:List Oper} {Q:Exit→Act→World→Prop} {K:List (Nat × Value)} {L L' : List Ent} {rest:List Oper}
theorem WC.permL {c:Code} (hp:L.Perm L') (k:WC P w0 gs n c Q K L'):WC P w0 gs n c Q K L:=fun a w h1 h2 h3 h4=>k a w h1 h2 h3 (h4.perm hp)
theorem WO.permL (hp:L.Perm L') (k:WO P w0 gs n ops Q K L' rest):WO P w0 gs n ops Q K L rest:=fun a w h1 h2 h3 h4=>k a w h1 h2 h3 (h4.perm hp)
end
inductive GS where
 | A:GS
 | B:Nat→Nat→List Value→List Value→GS
section
variable {β:Type} {A A' B:Nat→List β} {n i:Nat}
theorem uh {α β:Type} {f g:α→List β}:∀ {l:List α},(∀ x∈l,f x=g x)→l.flatMap f=l.flatMap g
 | [],_=>rfl
 | a::r,h=>by rw[List.flatMap_cons,List.flatMap_cons,h a Sm,uh (fun x hx=>h x (by simp[hx]))]
theorem range_split (h:i<n):List.range n=List.range i++i::List.range' (i+1) (n - (i+1)):=by
 rw[List.range_eq_range',List.range_eq_range'];have e1:List.range' 0 n=List.range' 0 i++List.range' i (n - i):=by
  have:=List.range'_append (s:=0) (m:=i) (n:=n - i) (step:=1);rw[Nat.zero_add,Nat.one_mul,show i+(n - i)=n by omega] at this;exact this.symm
 have e2:List.range' i (n - i)=i::List.range' (i+1) (n - (i+1)):=by
  rw[show n - i=(n - (i+1))+1 by omega];rfl
 rw[e1,e2]
end
theorem aj {k m:Nat} {z:LV} (h:m≤k):(mkz k z).drop (m*z.length)=mkz (k - m) z:=by
 have e:mkz k z=mkz m z++mkz (k - m) z:=by
  unfold mkz;rw[← List.flatten_append,List.replicate_append_replicate,show m+(k - m)=k by omega]
 rw[e,← zV m z,List.drop_left]
section
variable {P:Program} {w0:World} {gs:LN} {n:Nat} {ops:List Oper} {Q:Exit→Act→World→Prop} {K:List (Nat × Value)} {L:List Ent} {rest:List Oper}
variable {d:Nat} {ty:TypeId} {pos:String} {after:Array Edge} {gd:Option (Nat × Bool)}
theorem WO.appKZ {st xt e size bts g len cap m l:Nat} {z xs ys:LV} {x y:Operand} {v:Value} {L2:List Ent} [SlT P st e size] [SlT P xt e size] [ElT P e bts z] (hs:size=z.length) (hx:ev K x=some (.slice (some ⟨g,0,none⟩) len cap)) (hy:ev K y=some v)
  (hxl:xs.length=len*z.length) (hlc:len≤cap) (hp:Pk L g e (xs++mkz (cap - len) z) L2) (hr:Rds w0 gs L v m ys) (hyl:ys.length=m*z.length) (h1:ys.all Value.oneCell'=true) (hl:len+m=l) (hlb:l<9223372036854775808) (hc:cap<9223372036854775808) (hnc:l*bts≤140737488355328) (hb:bts≠0) (ht:e≠0)
  (k:∀ g' c',c' < 9223372036854775808→l≤c'→WO P w0 gs n ops Q ((d,.slice (some ⟨g',0,none⟩) l c')::K) (⟨g',e,xs++ys++mkz (c' - l) z⟩::L2) rest) (hd:Nat.blt d n=true:=by rfl) (hw:wk ops K gd=some true:=by rfl) :
  WO P w0 gs n ops Q K L (⟨some d,.call { callee:=.builtin .append,args:=#[x,y],argTypes:=#[st,xt] },ty,pos,after,gd⟩::rest):=by
 subst hl;intro a w hdf hsz hk hme;have hr1:=hr.perm hp.perm;have key:WO P w0 gs n ops Q K (⟨g,e,xs++mkz (cap - len) z⟩::L2) (⟨some d,.call { callee:=.builtin .append,args:=#[x,y],argTypes:=#[st,xt] },ty,pos,after,gd⟩::rest):=by
  by_cases hroom:len+m≤cap
  ·have hle:(len+m)*z.length≤cap*z.length:=Nat.mul_le_mul_right _ hroom;have hcl:len*z.length+(cap - len)*z.length=cap*z.length:=by rw[← Nat.add_mul];congr 1;omega
   have hcap:(xs++mkz (cap - len) z).length=cap*z.length:=by rw[List.length_append,zV,hxl];exact hcl
   rw[Nat.add_mul] at hle;have hov:over (xs++mkz (cap - len) z) (len*z.length) ys=xs++ys++mkz (cap - (len+m)) z:=by
    rw[← hxl,tL,hyl,aj Om,show cap - len - m=cap - (len+m) by omega]
   exact WO.both (rj (s:=undef) (z:=z) hx hy hr1 hyl hroom h1 Rp.here hov (by rw[hcap,hyl];exact hle) hs ht) (k g cap hc hroom) hd hw
  ·refine WO.news (tw (z:=z) (n:=m) hx hy (ys:=xs) (Rds.own (m:=len*z.length) Hs.here (by unfold cut;rw[List.drop_zero,← hxl,List.take_left])) hxl hr1 hyl Om hlb (growslice_fits Om hnc) hb hs) (fun s hs=>?_) hd hw;have hk2:=k (s 0) (s 1) hs.2 hs.1;exact fun a w h1 h2 h3 h4=>hk2 a w h1 h2 h3 (h4.sub Sm)
 exact key a w hdf hsz hk (hme.perm hp.perm)
theorem WO.appNZ {st xt e size bts m:Nat} {z ys:LV} {x y:Operand} {v:Value} [SlT P st e size] [SlT P xt e size] [ElT P e bts z] (hs:size=z.length) (hx:ev K x=some (.slice none 0 0)) (hy:ev K y=some v)
  (hr:Rds w0 gs L v m ys) (hyl:ys.length=m*z.length) (hm:0<m) (hlb:m<9223372036854775808) (hnc:m*bts≤140737488355328) (hb:bts≠0)
  (k:∀ g' c',c' < 9223372036854775808→m≤c'→WO P w0 gs n ops Q ((d,.slice (some ⟨g',0,none⟩) m c')::K) (⟨g',e,ys++mkz (c' - m) z⟩::L) rest) (hd:Nat.blt d n=true:=by rfl) (hw:wk ops K gd=some true:=by rfl) :
  WO P w0 gs n ops Q K L (⟨some d,.call { callee:=.builtin .append,args:=#[x,y],argTypes:=#[st,xt] },ty,pos,after,gd⟩::rest):=by
 refine WO.news (tw (z:=z) (n:=m) hx hy (ys:=[]) Rds.nil Sm hr hyl Om Om (by rw[Nat.zero_add];exact growslice_fits Om hnc) hb hs) (fun s hs=>?_) hd hw;obtain⟨h1,h2⟩:=hs;rw[Nat.zero_add] at h1;rw[Nat.zero_add];have hk2:=k (s 0) (s 1) h2 h1;simpa using hk2
end
end Sx
end
end Go.Proofs.YtiaibpcaloigkaaGreatDoor
