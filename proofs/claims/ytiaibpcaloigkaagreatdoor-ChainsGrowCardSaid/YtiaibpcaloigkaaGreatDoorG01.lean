/- Part 1 of the proof. -/
import Derived.WalkKit
import Derived.Deep.Draws
import Derived.Laws.Rows
import Derived.BigCall
import Derived.Deep.LoopGhost
set_option linter.unusedSimpArgs false
set_option linter.unusedVariables false
namespace Go.Proofs.YtiaibpcaloigkaaGreatDoor
abbrev LP:=List (Nat × Nat)
abbrev LV:=List Go.Value
theorem Dkk {p:Prop} (h:p:=by decide +kernel):p:=h
section
open Go Go.RowKit
namespace Sx
def lk:List (Nat × Value)→Nat→Option Value
 | [],_=>none
 | (k,v)::r,t=>bif Nat.beq k t then some v else lk r t
def ev (K:List (Nat × Value)):Operand→Option Value
 | .tmp t=>lk K t
 | .const v=>some v
 | .global g=>some (.pointer (some ⟨g,0,none⟩))
 | .func f=>some (.func (.func f) #[] #[])
def evs (K:List (Nat × Value)):List Operand→Option (List Value)
 | []=>some []
 | x::r=>match ev K x with
  | some v=>match evs K r with
   | some vs=>some (v::vs)
   | none=>none
  | none=>none
def Kn (K:List (Nat × Value)) (a:Act):Prop:=∀ t v,lk K t=some v→a.tmps[t]?=some v
theorem Kn.eval {K:List (Nat × Value)} {a:Act} (h:Kn K a) {x:Operand} {v:Value} (hx:ev K x=some v):a.eval x=v:=by
 cases x with
 | tmp t =>
  have:=h t v hx;simp only[Act.eval,Array.getD_eq_getD_getElem?,this];rfl
 | const c=>exact Option.some.inj hx
 | global g=>exact Option.some.inj hx
 | func f=>exact Option.some.inj hx
theorem Kn.evals {K:List (Nat × Value)} {a:Act} (h:Kn K a):∀ {xs:List Operand} {vs:LV},evs K xs=some vs→xs.map a.eval=vs
 | [],vs,hx=>by cases hx;rfl
 | x::r,vs,hx=>by
  unfold evs at hx;cases h1:ev K x with
  | none=>rw[h1] at hx;cases hx
  | some v =>
   cases h2:evs K r with
   | none=>rw[h1,h2] at hx;cases hx
   | some us =>
    rw[h1,h2] at hx;cases hx;simp only[List.map_cons,h.eval h1,h.evals h2]
theorem Kn.put {K:List (Nat × Value)} {a:Act} (h:Kn K a) {d:Nat} (hd:d<a.tmps.size) (v:Value):Kn ((d,v)::K) (a.put (some d) v):=by
 intro t u ht;unfold lk at ht;simp only[Act.put]
 by_cases e:d=t
 ·subst e;rw[Nat.beq_refl] at ht;simp only[cond_true] at ht;cases ht;simp[hd]
 ·have:Nat.beq d t=false:=by
   cases hb:Nat.beq d t with
   | false=>rfl
   | true=>exact absurd (Nat.eq_of_beq_eq_true hb) e
  rw[this] at ht;rw[Array.getElem?_setIfInBounds_ne e];exact h t u ht
theorem yk (a:Act) (d:Option Tmp) (v:Value):(a.put d v).tmps.size=a.tmps.size:=by
 cases d<;>simp[Act.put]
theorem put_defers (a:Act) (d:Option Tmp) (v:Value):(a.put d v).defers=a.defers:=by
 cases d<;>rfl
class Kd where
 map:Bool
@[reducible] instance cellsK:Kd:=⟨false⟩
@[reducible] def mapK:Kd:=⟨true⟩
structure Ent where
 g:Nat
 t:TypeId
 cs:List Value
 [k:Kd]
def okK (b:Bool) (g:Nat) (t:TypeId) (cs:LV) (w:World):Prop:=match b with
 | false=>∃ t' fr,w.heap[g]?=some (.cells cs.toArray t' fr)∧(t≠0→t'=t∧fr=(0,0))
 | true=>∃ es clk,w.heap[g]?=some (.map es clk)∧cs=es.toList.flatMap fun x=>[x.key,x.val]
def Ent.ok (e:Ent) (w:World):Prop:=okK e.k.map e.g e.t e.cs w
theorem Ent.ok.of {g:Nat} {t:TypeId} {cs:LV} {w:World} (h:w.heap[g]?=some (.cells cs.toArray t (0,0))):Ent.ok ⟨g,t,cs⟩ w:=⟨_,_,h,fun _=>⟨rfl,rfl⟩⟩
theorem Ent.ok.row {g:Nat} {t:TypeId} {cs:LV} {w:World} (h:Ent.ok ⟨g,t,cs⟩ w) (ht:t≠0):w.heap[g]?=some (.cells cs.toArray t (0,0)):=by
 obtain⟨t',fr,h1,h2⟩:=h;obtain⟨rfl,rfl⟩:=h2 ht;exact h1
theorem okK.keep {b:Bool} {g:Nat} {t:TypeId} {cs:LV} {w w' : World} (h:okK b g t cs w) (he:w'.heap[g]?=w.heap[g]?):okK b g t cs w':=by
 cases b with
 | false=>obtain⟨t',fr,h1,h2⟩:=h;exact⟨t',fr,he.trans h1,h2⟩
 | true=>obtain⟨es,clk,h1,h2⟩:=h;exact⟨es,clk,he.trans h1,h2⟩
theorem Ent.ok.keep {e:Ent} {w w' : World} (h:e.ok w) (he:w'.heap[e.g]?=w.heap[e.g]?):e.ok w':=okK.keep h he
structure Mod (gs:List Nat) (w w' : World):Prop where
 os:w'.os=w.os
 tape:w'.tape=w.tape
 output:w'.output=w.output
 size:w.heap.size≤w'.heap.size
 block:∀ k,k<w.heap.size→k ∉ gs→w'.heap[k]?=w.heap[k]?
theorem Mod.refl (gs:List Nat) (w:World):Mod gs w w:=⟨rfl,rfl,rfl,Nat.le_refl _,fun _ _ _=>rfl⟩
theorem Mod.trans {gs:List Nat} {a b c:World} (h:Mod gs a b) (k:Mod gs b c):Mod gs a c :=
 ⟨k.os.trans h.os,k.tape.trans h.tape,k.output.trans h.output,Nat.le_trans h.size k.size,fun i hi hn=>(k.block i (Nat.lt_of_lt_of_le hi h.size) hn).trans (h.block i hi hn)⟩
theorem Mod.of_below {w w' : World} (h:Below w.heap.size w w') (gs:List Nat):Mod gs w w':=⟨h.os,h.tape,h.output,h.size,fun k hk _=>h.block k hk⟩
theorem Mod.below {w w' : World} (h:Mod [] w w'):Below w.heap.size w w':=⟨h.os,h.tape,h.output,h.size,fun k hk=>h.block k hk (by simp)⟩
structure Me (w0:World) (gs:List Nat) (L:List Ent) (w:World):Prop where
 mod:Mod gs w0 w
 ok:∀ e∈L,e.ok w
 mine:∀ e∈L,w0.heap.size≤e.g∨e.g∈gs
 nodup:(L.map Ent.g).Nodup
structure Mr (w0:World) (gs:List Nat) (L:List Ent) (w:World):Prop where
 mod:Mod gs w0 w
 ok:∀ e∈L,e.ok w
theorem Me.mr {w0 w:World} {gs:List Nat} {L:List Ent} (h:Me w0 gs L w):Mr w0 gs L w:=⟨h.mod,h.ok⟩
theorem okK.lt {b:Bool} {g:Nat} {t:TypeId} {cs:LV} {w:World} (h:okK b g t cs w):g<w.heap.size:=by
 rcases Nat.lt_or_ge g w.heap.size with hlt|hge
 ·exact hlt
 ·exfalso;cases b with
  | false=>obtain⟨t,fr,h1,_⟩:=h;rw[Array.getElem?_eq_none hge] at h1;cases h1
  | true=>obtain⟨t,fr,h1,_⟩:=h;rw[Array.getElem?_eq_none hge] at h1;cases h1
theorem Ent.ok.lt {e:Ent} {w:World} (h:e.ok w):e.g<w.heap.size:=okK.lt h
theorem Me.refl (w0:World) (gs:List Nat):Me w0 gs [] w0:=⟨.refl _ _,by simp,by simp,by simp⟩
theorem Me.below {w0 w w' : World} {gs:List Nat} {L:List Ent} (h:Me w0 gs L w) (hb:Below w.heap.size w w'):Me w0 gs L w' :=
 ⟨h.mod.trans (.of_below hb gs),fun e he=>(h.ok e he).keep (hb.block e.g (h.ok e he).lt),h.mine,h.nodup⟩
theorem Me.alloc {w0 w:World} {gs:List Nat} {L:List Ent} (h:Me w0 gs L w) (t:TypeId) (cs:LV):Me w0 gs (⟨w.heap.size,t,cs⟩::L) (w.alloc (.cells cs.toArray t)):=by
 have h':=h.below ((Below.refl w.heap.size w).alloc (Nat.le_refl _) (.cells cs.toArray t));refine⟨h'.mod,?_,?_,?_⟩
 ·intro e he
  rcases List.mem_cons.1 he with rfl|he
  ·exact .of (heap_alloc_new w _)
  ·exact h'.ok e he
 ·intro e he
  rcases List.mem_cons.1 he with rfl|he
  ·exact .inl h.mod.size
  ·exact h.mine e he
 ·rw[List.map_cons,List.nodup_cons];refine⟨fun hm=>?_,h.nodup⟩;obtain⟨e,he,hg⟩:=List.mem_map.1 hm;have:=(h.ok e he).lt;simp only at hg;omega
structure fx (B:Nat) (N:List Ent) (w:World):Prop where
 ok:∀ e∈N,e.ok w
 new:∀ e∈N,B≤e.g
 nodup:(N.map Ent.g).Nodup
theorem fx.nil (B:Nat) (w:World):fx B [] w:=⟨by simp,by simp,by simp⟩
theorem Me.add {w0 w w' : World} {gs:List Nat} {L N:List Ent} (h:Me w0 gs L w) (hb:Below w.heap.size w w') (hn:fx w.heap.size N w'):Me w0 gs (N++L) w':=by
 have h':=h.below hb;refine⟨h'.mod,fun e he=>?_,fun e he=>?_,?_⟩
 ·rcases List.mem_append.1 he with he|he
  ·exact hn.ok e he
  ·exact h'.ok e he
 ·rcases List.mem_append.1 he with he|he
  ·exact .inl (Nat.le_trans h.mod.size (hn.new e he))
  ·exact h.mine e he
 ·rw[List.map_append,List.nodup_append];refine⟨hn.nodup,h.nodup,fun x hx y hy e=>?_⟩;obtain⟨e1,he1,rfl⟩:=List.mem_map.1 hx;obtain⟨e2,he2,rfl⟩:=List.mem_map.1 hy;have:=hn.new e1 he1;have:=(h.ok e2 he2).lt;omega
theorem Me.sub {w0 w:World} {gs:List Nat} {L L' : List Ent} (h:Me w0 gs L w) (hs:L'.Sublist L):Me w0 gs L' w :=
 ⟨h.mod,fun e he=>h.ok e (hs.subset he),fun e he=>h.mine e (hs.subset he),h.nodup.sublist (hs.map _)⟩
inductive Hs:List Ent→Nat→TypeId→List Value→Prop
 | here {L:List Ent} {g:Nat} {t:TypeId} {cs:LV}:Hs (⟨g,t,cs⟩::L) g t cs
 | there {L:List Ent} {g:Nat} {t:TypeId} {cs:LV} {e:Ent}:Hs L g t cs→Hs (e::L) g t cs
theorem Hs.a {L:List Ent} {g:Nat} {t:TypeId} {cs:LV} (h:Hs L g t cs:=by repeat (first|exact Hs.here|apply Hs.there)):Hs L g t cs:=h
theorem Hs.mem {L:List Ent} {g:Nat} {t:TypeId} {cs:LV} (h:Hs L g t cs):(⟨g,t,cs⟩ : Ent)∈L:=by
 induction h with
 | here=>simp
 | there _ ih=>exact List.mem_cons_of_mem _ ih
inductive Rp:List Ent→Nat→TypeId→List Value→List Value→List Ent→Prop
 | here {L:List Ent} {g:Nat} {t:TypeId} {cs cs' : List Value}:Rp (⟨g,t,cs⟩::L) g t cs cs' (⟨g,t,cs'⟩::L)
 | there {L L' : List Ent} {g:Nat} {t:TypeId} {cs cs' : List Value} {e:Ent}:Rp L g t cs cs' L'→Rp (e::L) g t cs cs' (e::L')
theorem Rp.mem {L L' : List Ent} {g:Nat} {t:TypeId} {cs cs' : List Value} (h:Rp L g t cs cs' L'):(⟨g,t,cs⟩ : Ent)∈L:=by
 induction h with
 | here=>simp
 | there _ ih=>exact List.mem_cons_of_mem _ ih
theorem Rp.gs {L L' : List Ent} {g:Nat} {t:TypeId} {cs cs' : List Value} (h:Rp L g t cs cs' L'):L'.map Ent.g=L.map Ent.g:=by
 induction h with
 | here=>rfl
 | there _ ih=>simp[ih]
theorem Rp.at {L L' : List Ent} {g:Nat} {t:TypeId} {cs cs' : List Value} (h:Rp L g t cs cs' L'):(L.map Ent.g).Nodup→∀ e∈L',e=⟨g,t,cs'⟩∨(e∈L∧e.g≠g):=by
 induction h with
 | here =>
  intro hn e he
  rcases List.mem_cons.1 he with rfl|he
  ·exact .inl rfl
  ·refine .inr ⟨List.mem_cons_of_mem _ he,fun hg=>?_⟩;rw[List.map_cons,List.nodup_cons] at hn;exact hn.1 (List.mem_map.2 ⟨e,he,hg⟩)
 | there hr ih =>
  intro hn e he;rw[List.map_cons,List.nodup_cons] at hn
  rcases List.mem_cons.1 he with rfl|he
  ·refine .inr ⟨by simp,fun hg=>?_⟩;exact hn.1 (List.mem_map.2 ⟨_,hr.mem,hg.symm⟩)
  ·rcases ih hn.2 e he with h1|h1
   ·exact .inl h1
   ·exact .inr ⟨List.mem_cons_of_mem _ h1.1,h1.2⟩
theorem Me.write {w0 w w' : World} {gs:List Nat} {L L' : List Ent} {g:Nat} {t:TypeId} {cs cs' : List Value} (h:Me w0 gs L w) (hr:Rp L g t cs cs' L')
  (hos:w'.os=w.os) (htape:w'.tape=w.tape) (hout:w'.output=w.output) (hsz:w.heap.size≤w'.heap.size)
  (hne:∀ k,k<w.heap.size→k≠g→w'.heap[k]?=w.heap[k]?) (hg:w'.heap[g]?=some (.cells cs'.toArray t (0,0))):Me w0 gs L' w':=by
 have hm:=h.mine _ hr.mem;refine⟨⟨hos.trans h.mod.os,htape.trans h.mod.tape,hout.trans h.mod.output,Nat.le_trans h.mod.size hsz,fun k hk hn=>?_⟩,fun e he=>?_,fun e he=>?_,?_⟩
 ·refine (hne k (Nat.lt_of_lt_of_le hk h.mod.size) (fun e=>?_)).trans (h.mod.block k hk hn);subst e
  rcases hm with hm|hm
  ·simp only at hm;omega
  ·exact hn hm
 ·rcases hr.at h.nodup e he with rfl|⟨he,hne'⟩
  ·exact .of hg
  ·exact (h.ok e he).keep (hne e.g (h.ok e he).lt hne')
 ·rcases hr.at h.nodup e he with rfl|⟨he,_⟩
  ·exact hm
  ·exact h.mine e he
 ·rw[hr.gs];exact h.nodup
def Seg (w:World) (b off:Nat) (cs:LV):Prop:=∀ i v,cs[i]?=some v→w.cell? ⟨b,off+i,none⟩=some v
theorem oT {w:World} {p:Addr} {v:Value} (h:w.cell? p=some v):p.block<w.heap.size:=by
 rcases Nat.lt_or_ge p.block w.heap.size with h1|h1
 ·exact h1
 ·unfold World.cell? at h;rw[Array.getElem?_eq_none h1] at h;cases h
theorem Seg.mod {w w' : World} {b off:Nat} {cs:LV} {gs:List Nat} (h:Seg w b off cs) (hm:Mod gs w w') (hb:b ∉ gs):Seg w' b off cs:=by
 intro i v hv;have h1:=h i v hv;have h2:w'.heap[b]?=w.heap[b]?:=hm.block b (oT h1) hb;rw[← h1];exact World.cell?_of_block (w:=w) h2
theorem Ent.ok.cell {g:Nat} {t:TypeId} {cs:LV} {w:World} (h:Ent.ok ⟨g,t,cs⟩ w) (i:Nat):w.cell? ⟨g,i,none⟩=cs[i]?:=by
 obtain⟨t,fr,h1,_⟩:=h;rw[cell_of_row w g i cs.toArray t fr h1];simp
theorem Ent.ok.seg {g:Nat} {t:TypeId} {cs:LV} {w:World} (h:Ent.ok ⟨g,t,cs⟩ w) (off:Nat):Seg w g off (cs.drop off):=by
 intro i v hv;rw[h.cell,← hv,List.getElem?_drop]
end Sx
end
section
open Go Go.RowKit Go.BigFrame
namespace Sx
class AgT (P:Program) (t:TypeId) (n:outParam Nat):Prop where
 agg:∀ w,(isAgg t).run P w=.ok true w
 size:∀ w,(sizeOf t).run P w=.ok n w
class OnT (P:Program) (t:TypeId):Prop where
 agg:∀ w,(isAgg t).run P w=.ok false w
 size:∀ w,(sizeOf t).run P w=.ok 1 w
class ZeT (P:Program) (t:TypeId) (v:outParam Value):Prop where
 zero:∀ w,(zeroValue t).run P w=.ok v w
class FlT (P:Program) (s:TypeId) (i:Nat) (off:outParam Nat):Prop where
 place:∀ w a,(Instr.fieldAt s (.pointer (some a)) i).run P w=.ok (.pointer (some (a.add off))) w
class ArT (P:Program) (t:TypeId) (len elem size:outParam Nat):Prop where
 under:P.underlying t=some (.array len elem)
 size:∀ w,(sizeOf elem).run P w=.ok size w
class SlT (P:Program) (t:TypeId) (elem size:outParam Nat):Prop where
 under:P.underlying t=some (.slice elem)
 size:∀ w,(sizeOf elem).run P w=.ok size w
class Cal (P:Program) (f:FuncId):Prop where
 run:∀ args w,(callFunc f args).run P w=.ok (.enter f args) w
theorem vS (g o j:Nat):(⟨g,o,none⟩ : Addr).add j=⟨g,o+j,none⟩:=by
 unfold Addr.add;split
 ·rename_i h;simp[h]
 ·rfl
section
variable {P:Program} {w0:World} {gs:List Nat} {K:List (Nat × Value)} {L:List Ent}
def Does (P:Program) (w0:World) (gs:List Nat) (K:List (Nat × Value)) (L:List Ent) (op:Op) (ty:TypeId) (v:Value):Prop :=
 ∀ a w,Kn K a→Mr w0 gs L w→∀ o:Oper,o.op=op→o.type=ty→(execOp a.eval o).run P w=.ok (.value v) w
def cut (cs:LV) (off n:Nat):List Value:=(cs.drop off).take n
theorem vb {cs vs:LV} {off n:Nat} (h:cut cs off n=vs) {j:Nat} {v:Value} (hj:vs[j]?=some v):cs[off+j]?=some v:=by
 subst h;unfold cut at hj;rw[List.getElem?_take] at hj
 split at hj
 ·rwa [List.getElem?_drop] at hj
 ·cases hj
theorem vR {t n:Nat} [AgT P t n] (w:World) (g off:Nat) (vs:LV) (hl:vs.length=n) (h:∀ j v,vs[j]?=some v→w.cell? ⟨g,off+j,none⟩=some v) :
  (loadVar t ⟨g,off,none⟩).run P w=.ok (.agg vs.toArray) w:=by
 have h1:=run_loadCells_list (P:=P) w ⟨g,off,none⟩ vs (fun j v hv=>by rw[vS];exact h j v hv);unfold loadVar;subst hl;simp only[Sem.run_bind,AgT.agg (P:=P) (t:=t) w,AgT.size (P:=P) (t:=t) w,Result.andThen_ok,if_true,h1];rfl
theorem vT {t:Nat} [OnT P t] (w:World) (g off:Nat) (v:Value) (h:w.cell? ⟨g,off,none⟩=some v) :
  (loadVar t ⟨g,off,none⟩).run P w=.ok v w:=by
 unfold loadVar;simp only[Sem.run_bind,OnT.agg (P:=P) (t:=t) w,Result.andThen_ok,Bool.false_eq_true,if_false,run_load,h]
theorem vK {x:Operand} {ty:TypeId} {v:Value} (hx:ev K x=some v):Does P w0 gs K L (.move x) ty v:=by
 intro a w hk _ o ho _;simp only[execOp,ho,hk.eval hx];rfl
theorem lC {x:Operand} {ty:TypeId} {v:Value} (hx:ev K x=some v):Does P w0 gs K L (.assign x) ty v:=by
 intro a w hk _ o ho _;simp only[execOp,ho,hk.eval hx];rfl
theorem iI {c x y:Operand} {ty:TypeId} {v:Value} (hc:ev K c=some (.bool true)) (hx:ev K x=some v):Does P w0 gs K L (.pick c x y) ty v:=by
 intro a w hk _ o ho _;simp only[execOp,ho,hk.eval hx,hk.eval hc];rfl
theorem i4 {c x y:Operand} {ty:TypeId} {v:Value} (hc:ev K c=some (.bool false)) (hy:ev K y=some v):Does P w0 gs K L (.pick c x y) ty v:=by
 intro a w hk _ o ho _;simp only[execOp,ho,hk.eval hy,hk.eval hc];rfl
theorem bO {t g off t' n:Nat} {cs vs:LV} {x:Operand} {ty:TypeId} [AgT P t n] (hx:ev K x=some (.pointer (some ⟨g,off,none⟩)))
  (hm:Hs L g t' cs) (hc:cut cs off n=vs) (hl:vs.length=n):Does P w0 gs K L (.load t x) ty (.agg vs.toArray):=by
 intro a w hk hme o ho _;have hok:=hme.ok _ hm.mem;have h1:=vR (P:=P) (t:=t) w g off vs hl (fun j v hj=>by rw[hok.cell (off+j)];exact vb hc hj);simp only[execOp,ho,hk.eval hx,Instr.loadAt,Instr.sureAddr,Sem.run_bind,Sem.run_pure,Result.andThen_ok,h1]
theorem gU {t g off t' : Nat} {cs:LV} {v:Value} {x:Operand} {ty:TypeId} [OnT P t] (hx:ev K x=some (.pointer (some ⟨g,off,none⟩)))
  (hm:Hs L g t' cs) (hc:cs[off]?=some v):Does P w0 gs K L (.load t x) ty v:=by
 intro a w hk hme o ho _;have hok:=hme.ok _ hm.mem;have h1:=vT (P:=P) (t:=t) w g off v (by rw[hok.cell off];exact hc);simp only[execOp,ho,hk.eval hx,Instr.loadAt,Instr.sureAddr,Sem.run_bind,Sem.run_pure,Result.andThen_ok,h1]
theorem uj {t b off n i:Nat} {cs vs:LV} {x:Operand} {ty:TypeId} [AgT P t n] (hs:Seg w0 b off cs) (hx:ev K x=some (.pointer (some ⟨b,off+i,none⟩)))
  (hb:b ∉ gs) (hc:cut cs i n=vs) (hl:vs.length=n):Does P w0 gs K L (.load t x) ty (.agg vs.toArray):=by
 intro a w hk hme o ho _;have hs':=hs.mod hme.mod hb;have h1:=vR (P:=P) (t:=t) w b (off+i) vs hl (fun j v hj=>by rw[Nat.add_assoc];exact hs' (i+j) v (vb hc hj));simp only[execOp,ho,hk.eval hx,Instr.loadAt,Instr.sureAddr,Sem.run_bind,Sem.run_pure,Result.andThen_ok,h1]
theorem vP {t b off i:Nat} {cs:LV} {v:Value} {x:Operand} {ty:TypeId} [OnT P t] (hs:Seg w0 b off cs) (hx:ev K x=some (.pointer (some ⟨b,off+i,none⟩)))
  (hb:b ∉ gs) (hc:cs[i]?=some v):Does P w0 gs K L (.load t x) ty v:=by
 intro a w hk hme o ho _;have h1:=vT (P:=P) (t:=t) w b (off+i) v (hs.mod hme.mod hb i v hc);simp only[execOp,ho,hk.eval hx,Instr.loadAt,Instr.sureAddr,Sem.run_bind,Sem.run_pure,Result.andThen_ok,h1]
theorem qv {s i off g o o' : Nat} {x:Operand} {ty:TypeId} [FlT P s i off] (hx:ev K x=some (.pointer (some ⟨g,o,none⟩))) (ho:o+off=o') :
  Does P w0 gs K L (.fieldAddr s x i) ty (.pointer (some ⟨g,o',none⟩)):=by
 intro a w hk _ oo hoo _;subst ho;have:=FlT.place (P:=P) (s:=s) (i:=i) (off:=off) w ⟨g,o,none⟩;rw[vS] at this;simp only[execOp,hoo,hk.eval hx,Sem.run_bind,this,Result.andThen_ok,Sem.run_pure]
theorem ot {x:Operand} {ty:TypeId} {p:Addr} (hx:ev K x=some (.pointer (some p))):Does P w0 gs K L (.nilCheck x) ty (.pointer (some p)):=by
 intro a w hk _ o ho _;simp only[execOp,ho,hk.eval hx];rfl
theorem vn {t g o i len elem size o' : Nat} {k:IntKind} {x y:Operand} {ty:TypeId} [ArT P t len elem size] (hx:ev K x=some (.pointer (some ⟨g,o,none⟩)))
  (hy:ev K y=some (.int k (i:Int))) (hi:i<len) (ho:o+i*size=o'):Does P w0 gs K L (.indexAddr t x y) ty (.pointer (some ⟨g,o',none⟩)):=by
 intro a w hk _ oo hoo _;subst ho;have hu:∀ w,(underlying t).run P w=.ok (.array len elem) w:=fun w=>by simp[underlying,ArT.under (P:=P) (t:=t)]
 simp only[execOp,hoo,hk.eval hx,hk.eval hy,Instr.indexAt,asIntOf,Instr.sureAddr,Sem.run_bind,Sem.run_pure,Result.andThen_ok,hu];rw[if_pos ⟨by omega,by omega⟩];simp only[Sem.run_bind,ArT.size (P:=P) (t:=t),Result.andThen_ok,Sem.run_pure,Int.toNat_natCast,vS]
theorem zb {t g o i len cap elem size o' : Nat} {k:IntKind} {x y:Operand} {ty:TypeId} [SlT P t elem size] (hx:ev K x=some (.slice (some ⟨g,o,none⟩) len cap))
  (hy:ev K y=some (.int k (i:Int))) (hi:i<len) (ho:o+i*size=o'):Does P w0 gs K L (.indexAddr t x y) ty (.pointer (some ⟨g,o',none⟩)):=by
 intro a w hk _ oo hoo _;subst ho;have hu:∀ w,(underlying t).run P w=.ok (.slice elem) w:=fun w=>by simp[underlying,SlT.under (P:=P) (t:=t)]
 simp only[execOp,hoo,hk.eval hx,hk.eval hy,Instr.indexAt,asIntOf,Sem.run_bind,Sem.run_pure,Result.andThen_ok,hu];rw[if_pos ⟨by omega,by omega⟩];simp only[Sem.run_bind,SlT.size (P:=P) (t:=t),Result.andThen_ok,Sem.run_pure,Int.toNat_natCast,vS]
theorem mC {x:Operand} {ty:TypeId} {i:Nat} {vs:LV} {v:Value} (hx:ev K x=some (.tuple vs.toArray)) (hi:vs[i]?=some v):Does P w0 gs K L (.extract x i) ty v:=by
 intro a w hk _ o ho _;have:vs.toArray[i]?=some v:=by simpa using hi
 simp only[execOp,ho,hk.eval hx,Instr.extract,this,Sem.run_bind,Sem.run_pure,Result.andThen_ok]
theorem rb {x:Operand} {t ty:TypeId} {b:Bool} (hx:ev K x=some (.bool b)):Does P w0 gs K L (.unOp .not t x) ty (.bool !b):=by
 intro a w hk _ o ho _;simp only[execOp,ho,hk.eval hx];rfl
theorem jf {x:Operand} {t ty:TypeId} {k:IntKind} {n:Int} (hx:ev K x=some (.int k n)):Does P w0 gs K L (.unOp .neg t x) ty (.int k (k.wrap (0 - n))):=by
 intro a w hk _ o ho _;simp only[execOp,ho,hk.eval hx];rfl
theorem zH {fn:Fn} {first captured:Array Operand} {fs cs:LV} {ty:TypeId} (h1:evs K first.toList=some fs) (h2:evs K captured.toList=some cs) :
  Does P w0 gs K L (.makeFunc fn first captured) ty (.func fn fs.toArray cs.toArray):=by
 intro a w hk _ o ho _;have e1:first.map a.eval=fs.toArray:=by have h:=hk.evals h1;apply Array.ext';simpa using h
 have e2:captured.map a.eval=cs.toArray:=by have h:=hk.evals h2;apply Array.ext';simpa using h
 simp only[execOp,ho,e1,e2];rfl
theorem lJ (op:BinOp) (t:TypeId) (x y:Operand) (k k' : IntKind) (a b:Int) (w:World):(eqGuard op t x y (.int k a) (.int k' b)).run P w=.ok () w:=by
 unfold eqGuard;split<;>rfl
theorem yq {op:BinOp} {x y:Operand} {t yt ty:TypeId} {k k' : IntKind} {m n:Int} {v:Value} (hx:ev K x=some (.int k m)) (hy:ev K y=some (.int k' n))
  (h:∀ w,(binOp op t (.int k m) (.int k' n)).run P w=.ok v w):Does P w0 gs K L (.binOp op t x y yt) ty v:=by
 intro a w hk _ o ho _;simp only[execOp,ho,hk.eval hx,hk.eval hy,Sem.run_bind,lJ,Result.andThen_ok,h,Sem.run_pure]
theorem zi {x y:Operand} {t yt ty:TypeId} {k:IntKind} {m n r:Int} (hx:ev K x=some (.int k m)) (hy:ev K y=some (.int k n)) (hr:k.wrap (m+n)=r) :
  Does P w0 gs K L (.binOp .add t x y yt) ty (.int k r):=by
 refine yq hx hy (fun w=>?_);subst hr;simp[binOp,Op.intArith]
theorem zG {x y:Operand} {t yt ty:TypeId} {k:IntKind} {m n r:Int} (hx:ev K x=some (.int k m)) (hy:ev K y=some (.int k n)) (hr:k.wrap (m - n)=r) :
  Does P w0 gs K L (.binOp .sub t x y yt) ty (.int k r):=by
 refine yq hx hy (fun w=>?_);subst hr;simp[binOp,Op.intArith]
theorem ym {x y:Operand} {t yt ty:TypeId} {k:IntKind} {m n r:Int} (hx:ev K x=some (.int k m)) (hy:ev K y=some (.int k n)) (hr:k.wrap (m*n)=r) :
  Does P w0 gs K L (.binOp .mul t x y yt) ty (.int k r):=by
 refine yq hx hy (fun w=>?_);subst hr;simp[binOp,Op.intArith]
theorem ud {x y:Operand} {t yt ty:TypeId} {k:IntKind} {m n r:Int} (hx:ev K x=some (.int k m)) (hy:ev K y=some (.int k n)) (hn:n≠0) (hr:k.wrap (m.tdiv n)=r) :
  Does P w0 gs K L (.binOp .quo t x y yt) ty (.int k r):=by
 refine yq hx hy (fun w=>?_);subst hr;simp[binOp,Op.intDiv,hn]
theorem yK {x y:Operand} {t yt ty:TypeId} {k:IntKind} {m n r:Int} (hx:ev K x=some (.int k m)) (hy:ev K y=some (.int k n)) (hn:n≠0) (hr:m.tmod n=r) :
  Does P w0 gs K L (.binOp .rem t x y yt) ty (.int k r):=by
 refine yq hx hy (fun w=>?_);subst hr;simp[binOp,Op.intDiv,hn]
theorem sW {x y:Operand} {t yt ty:TypeId} {k k' : IntKind} {m n r:Int} (hx:ev K x=some (.int k m)) (hy:ev K y=some (.int k' n)) (hn:0≤n) (hr:k.wrap (m*2 ^ (min n.toNat k.bits))=r) :
  Does P w0 gs K L (.binOp .shl t x y yt) ty (.int k r):=by
 refine yq hx hy (fun w=>?_);subst hr;simp[binOp,Op.shift,Int.not_lt.2 hn]
theorem vo {x y:Operand} {t yt ty:TypeId} {k k' : IntKind} {m n r:Int} (hx:ev K x=some (.int k m)) (hy:ev K y=some (.int k' n)) (hn:0≤n) (hr:m.fdiv (2 ^ (min n.toNat k.bits))=r) :
  Does P w0 gs K L (.binOp .shr t x y yt) ty (.int k r):=by
 refine yq hx hy (fun w=>?_);subst hr;simp[binOp,Op.shift,Int.not_lt.2 hn]
theorem tY {x y:Operand} {t yt ty:TypeId} {k:IntKind} {m n r:Int} (hx:ev K x=some (.int k m)) (hy:ev K y=some (.int k n)) (hr:k.wrap ((BitVec.ofInt k.bits m &&& BitVec.ofInt k.bits n).toNat)=r) :
  Does P w0 gs K L (.binOp .and t x y yt) ty (.int k r):=by
 refine yq hx hy (fun w=>?_);subst hr;simp[binOp,Op.intBits]
theorem uK {x y:Operand} {t yt ty:TypeId} {k:IntKind} {m n r:Int} (hx:ev K x=some (.int k m)) (hy:ev K y=some (.int k n)) (hr:k.wrap ((BitVec.ofInt k.bits m ||| BitVec.ofInt k.bits n).toNat)=r) :
  Does P w0 gs K L (.binOp .or t x y yt) ty (.int k r):=by
 refine yq hx hy (fun w=>?_);subst hr;simp[binOp,Op.intBits]
theorem jV {x y:Operand} {t yt ty:TypeId} {k:IntKind} {m n r:Int} (hx:ev K x=some (.int k m)) (hy:ev K y=some (.int k n)) (hr:k.wrap ((BitVec.ofInt k.bits m ^^^ BitVec.ofInt k.bits n).toNat)=r) :
  Does P w0 gs K L (.binOp .xor t x y yt) ty (.int k r):=by
 refine yq hx hy (fun w=>?_);subst hr;simp[binOp,Op.intBits]
theorem nb {x y:Operand} {t yt ty:TypeId} {k:IntKind} {m n:Int} (hx:ev K x=some (.int k m)) (hy:ev K y=some (.int k n)) :
  Does P w0 gs K L (.binOp .eql t x y yt) ty (.bool (decide (m=n))):=by
 refine yq hx hy (fun w=>?_);have:(m == n)=decide (m=n):=by by_cases h:m=n<;>simp[h]
 rw[← this];cases k<;>rfl
theorem oI {x y:Operand} {t yt ty:TypeId} {k:IntKind} {m n:Int} (hx:ev K x=some (.int k m)) (hy:ev K y=some (.int k n)) :
  Does P w0 gs K L (.binOp .neq t x y yt) ty (.bool (decide (m≠n))):=by
 refine yq hx hy (fun w=>?_);have:(m != n)=decide (m≠n):=by by_cases h:m=n<;>simp[h]
 rw[← this];cases k<;>rfl
theorem nz {x y:Operand} {t yt ty:TypeId} {k:IntKind} {m n:Int} (hx:ev K x=some (.int k m)) (hy:ev K y=some (.int k n)) :
  Does P w0 gs K L (.binOp .lss t x y yt) ty (.bool (decide (m<n))):=by
 refine yq hx hy (fun w=>?_);simp[binOp,Op.intCmp]
theorem o6 {x y:Operand} {t yt ty:TypeId} {k:IntKind} {m n:Int} (hx:ev K x=some (.int k m)) (hy:ev K y=some (.int k n)) :
  Does P w0 gs K L (.binOp .leq t x y yt) ty (.bool (decide (m≤n))):=by
 refine yq hx hy (fun w=>?_);simp[binOp,Op.intCmp]
theorem oC {x y:Operand} {t yt ty:TypeId} {k:IntKind} {m n:Int} (hx:ev K x=some (.int k m)) (hy:ev K y=some (.int k n)) :
  Does P w0 gs K L (.binOp .gtr t x y yt) ty (.bool (decide (n<m))):=by
 refine yq hx hy (fun w=>?_);simp[binOp,Op.intCmp]
theorem oh {x y:Operand} {t yt ty:TypeId} {k:IntKind} {m n:Int} (hx:ev K x=some (.int k m)) (hy:ev K y=some (.int k n)) :
  Does P w0 gs K L (.binOp .geq t x y yt) ty (.bool (decide (n≤m))):=by
 refine yq hx hy (fun w=>?_);simp[binOp,Op.intCmp]
class InT (P:Program) (t:TypeId) (k:outParam IntKind):Prop where
 under:P.underlying t=some (.int k)
theorem zr {s t ty:TypeId} {x:Operand} {k k' : IntKind} {n r:Int} [InT P s k'] [InT P t k] (hx:ev K x=some (.int k' n)) (hr:k.wrap n=r):Does P w0 gs K L (.convert s t x) ty (.int k r):=by
 intro a w hk _ o ho _;subst hr;have h1:∀ w,(underlying s).run P w=.ok (.int k') w:=fun w=>by simp[underlying,InT.under (P:=P) (t:=s)]
 have h2:∀ w,(underlying t).run P w=.ok (.int k) w:=fun w=>by simp[underlying,InT.under (P:=P) (t:=t)]
 simp only[execOp,ho,hk.eval hx,convert,Sem.run_bind,h1,h2,Result.andThen_ok,Conv.intToInt,Sem.run_pure]
theorem ad {x:Operand} {t ty elem size:Nat} {p:Option Addr} {n c:Nat} [SlT P t elem size] (hx:ev K x=some (.slice p n c)) :
  Does P w0 gs K L (.call { callee:=.builtin .len,args:=#[x],argTypes:=#[t] }) ty (.int .i64 (n:Int)):=by
 intro a w hk _ o ho _;have hu:∀ w,(underlying t).run P w=.ok (.slice elem) w:=fun w=>by simp[underlying,SlT.under (P:=P) (t:=t)]
 obtain⟨dst,op,ty',pos,after,guard⟩:=o;subst ho;rw[execOp_builtin];simp only[builtin_len,List.map_toArray,List.map_cons,List.map_nil,hk.eval hx,Builtin.len_,Sem.run_bind];simp[hu,goInt]
end
section
variable {P:Program} {w0:World} {gs:List Nat} {K:List (Nat × Value)} {L:List Ent}
def se (P:Program) (w0:World) (gs:List Nat) (K:List (Nat × Value)) (L:List Ent) (op:Op) (ty:TypeId) (v:Nat→Value) (t:TypeId) (cs:LV):Prop :=
 ∀ a w,Kn K a→Mr w0 gs L w→∀ o:Oper,o.op=op→o.type=ty→(execOp a.eval o).run P w=.ok (.value (v w.heap.size)) (w.alloc (.cells cs.toArray t))
def jO (P:Program) (w0:World) (gs:List Nat) (K:List (Nat × Value)) (L:List Ent) (op:Op) (ty:TypeId) (L' : List Ent):Prop :=
 ∀ a w,Kn K a→Me w0 gs L w→∀ o:Oper,o.op=op→o.type=ty→∃ w',(execOp a.eval o).run P w=.ok .skip w'∧Me w0 gs L' w'
def cellsOf:Value→List Value
 | .agg cs=>cs.toList
 | v=>[v]
theorem vJ (v:Value):v.cells=(cellsOf v).toArray:=by cases v<;>simp[Value.cells,cellsOf]
theorem kI {t ty:TypeId} {z:Value} {zs:LV} [ZeT P t z] (hz:cellsOf z=zs) :
  se P w0 gs K L (.alloc t) ty (fun g=>.pointer (some ⟨g,0,none⟩)) t zs:=by
 intro a w hk _ o ho _;subst hz;simp only[execOp,ho,Instr.alloc,Sem.run_bind,ZeT.zero (P:=P) (t:=t),Result.andThen_ok,newVar,newRow,run_newObj,Sem.run_pure,vJ];rfl
theorem e8 {t ty:TypeId} {x:Operand} {v:Value} {cs:LV} (hx:ev K x=some v) (hc:cellsOf v=cs) :
  se P w0 gs K L (.box t x) ty (fun g=>.pointer (some ⟨g,0,none⟩)) t cs:=by
 intro a w hk _ o ho _;subst hc;simp only[execOp,ho,hk.eval hx,Instr.box,Sem.run_bind,newVar,newRow,run_newObj,Result.andThen_ok,Sem.run_pure,vJ];rfl
def over (cs:LV) (off:Nat) (vs:LV):List Value:=cs.take off++vs++cs.drop (off+vs.length)
theorem vm {t:TypeId} (g:Nat):∀ (vs:LV) (off i:Nat) (cs:LV) (w:World),off+i+vs.length≤cs.length→(∀ v∈vs,v.oneCell'=true)→w.heap[g]?=some (.cells cs.toArray t (0,0)) →
  ∃ w',(storeCells ⟨g,off,none⟩ vs i).run P w=.ok () w'∧w'.os=w.os∧w'.tape=w.tape∧w'.output=w.output∧w'.heap.size=w.heap.size∧(∀ k,k≠g→w'.heap[k]?=w.heap[k]?) ∧
   w'.heap[g]?=some (.cells (over cs (off+i) vs).toArray t (0,0))
 | [],off,i,cs,w,hl,_,hg=>⟨w,rfl,rfl,rfl,rfl,rfl,fun _ _=>rfl,by
   have:over cs (off+i) []=cs:=by simp[over]
   rw[this];exact hg⟩
 | v::r,off,i,cs,w,hl,hv,hg=>by
  simp only[List.length_cons] at hl;have hcell:w.cell? ⟨g,off+i,none⟩=some cs[off+i]:=by
   rw[cell_of_row w g (off+i) cs.toArray t (0,0) hg];simp
  have hfr:w.frozen? ⟨g,off+i,none⟩=false:=frozen_of_row w g (off+i) cs.toArray t hg;have hst:(store ((⟨g,off,none⟩ : Addr).add i) v).run P w=.ok () (w.setCell ⟨g,off+i,none⟩ v):=by
   rw[vS,run_store P w _ v .plain (hv v (by simp)),hcell,hfr];rfl
  have hg' : (w.setCell ⟨g,off+i,none⟩ v).heap[g]?=some (.cells (cs.set (off+i) v).toArray t (0,0)):=by
   have:=heap_setCell_same w g (off+i) cs.toArray t v hg;rw[this];simp
  obtain⟨w',h1,h2,h3,h4,h5,h6,h7⟩:=vm g r off (i+1) (cs.set (off+i) v) (w.setCell ⟨g,off+i,none⟩ v) (by simp;omega) (fun u hu=>hv u (by simp[hu])) hg';refine⟨w',?_,h2,h3,h4,h5.trans (by simp),fun k hk=>(h6 k hk).trans (heap_setCell_other w _ k v hk),?_⟩
  ·unfold storeCells;rw[Sem.run_bind,hst];exact h1
  ·rw[h7];congr 2;apply congrArg;unfold over;rw[show off+(i+1)=off+i+1 by omega];simp only[List.length_cons];have hlt:off+i<cs.length:=by omega
   have h1:(cs.set (off+i) v).take (off+i+1)=cs.take (off+i)++[v]:=by
    rw[List.take_succ_eq_append_getElem (by simpa using hlt)];simp[List.take_set_of_le]
   have h2:(cs.set (off+i) v).drop (off+i+1+r.length)=cs.drop (off+i+(r.length+1)):=by
    rw[List.drop_set_of_lt (by omega),show off+i+1+r.length=off+i+(r.length+1) by omega]
   rw[h1,h2];simp
end
class SzT (P:Program) (t:TypeId) (n:outParam Nat):Prop where
 size:∀ w,(sizeOf t).run P w=.ok n w
instance {P:Program} {t n:Nat} [h:AgT P t n]:SzT P t n:=⟨h.size⟩
instance {P:Program} {t:Nat} [h:OnT P t]:SzT P t 1:=⟨h.size⟩
section
variable {P:Program} {w0:World} {gs:List Nat} {K:List (Nat × Value)} {L:List Ent}
theorem iJ {t n g off t' : Nat} {x y:Operand} {ty:TypeId} {v:Value} {vs cs cs' : List Value} {L' : List Ent} [SzT P t n] (hx:ev K x=some (.pointer (some ⟨g,off,none⟩)))
  (hy:ev K y=some v) (hv:cellsOf v=vs) (hl:vs.length=n) (h1:vs.all Value.oneCell'=true) (hr:Rp L g t' cs cs' L') (hc:over cs off vs=cs') (hle:off+vs.length≤cs.length) (ht:t'≠0) :
  jO P w0 gs K L (.store t x y) ty L':=by
 intro a w hk hme o ho _;subst hc;subst hv;have hok:=(hme.ok _ hr.mem).row ht;obtain⟨w',h1,h2,h3,h4,h5,h6,h7⟩:=vm (P:=P) (t:=t') g (cellsOf v) off 0 cs w (by omega) (fun u hu=>List.all_eq_true.1 h1 u hu) hok;refine⟨w',?_,hme.write hr h2 h3 h4 (by omega) (fun k _ hk=>h6 k hk) h7⟩;have hsz:v.cells.size=n:=by rw[vJ];simpa using hl
 simp only[execOp,ho,hk.eval hx,hk.eval hy,Instr.storeAt,Instr.sureAddr,storeVar,Sem.run_bind,Sem.run_pure,Result.andThen_ok,SzT.size (P:=P) (t:=t)];rw[if_neg (by simp[hsz]),vJ];simp only[h1,Result.andThen_ok,Sem.run_pure]
end
def nth {α:Type}:List α→Nat→Option α
 | [],_=>none
 | x::_,0=>some x
 | _::r,i+1=>nth r i
theorem um {α:Type}:∀ (l:List α) (i:Nat),nth l i=l[i]?
 | [],i=>by simp[nth]
 | x::r,0=>rfl
 | x::r,i+1=>by simp[nth,um r i]
def wk (ops:List Oper) (K:List (Nat × Value)):Option (Nat × Bool)→Option Bool
 | none=>some true
 | some (j,b)=>match nth ops j with
  | some o=>match o.dst with
   | some t=>match lk K t with
    | some (.bool c)=>some (c == b)
    | _=>none
   | none=>none
  | none=>none
theorem yF {ops:List Oper} {K:List (Nat × Value)} {a:Act} {o:Oper} {b:Bool} (hk:Kn K a) (h:wk ops K o.guard=some b):Region.wanted o (yielded ops.toArray a.tmps)=b:=by
 unfold wk at h;unfold Region.wanted;cases hg:o.guard with
 | none=>rw[hg] at h;cases h;rfl
 | some p =>
  obtain⟨j,want⟩:=p;rw[hg] at h;simp only at h ⊢;rw[um] at h;cases ho:ops[j]? with
  | none=>rw[ho] at h;cases h
  | some o' =>
   rw[ho] at h;simp only at h;cases ht:o'.dst with
   | none=>rw[ht] at h;cases h
   | some t =>
    rw[ht] at h;simp only at h;cases hl:lk K t with
    | none=>rw[hl] at h;cases h
    | some v =>
     rw[hl] at h;have hat:=hk t v hl;cases v<;>simp only[reduceCtorEq] at h;rename_i c;cases h;have:yielded ops.toArray a.tmps j=some c:=by
      unfold yielded;simp[ho,ht,hat]
     rw[this];cases c<;>cases want<;>rfl
section
variable (P:Program) (w0:World) (gs:List Nat) (n:Nat)
def WO (ops:List Oper) (Q:Exit→Act→World→Prop) (K:List (Nat × Value)) (L:List Ent) (rest:List Oper):Prop :=
 ∀ a w,a.defers=[]→a.tmps.size=n→Kn K a→Me w0 gs L w→wpList P ops.toArray Q rest a w
def WC (c:Code) (Q:Exit→Act→World→Prop) (K:List (Nat × Value)) (L:List Ent):Prop :=
 ∀ a w,a.defers=[]→a.tmps.size=n→Kn K a→Me w0 gs L w→c.wp P Q a w
def WX (e:Exit) (Q:Exit→Act→World→Prop) (K:List (Nat × Value)) (L:List Ent):Prop :=
 ∀ a w,a.defers=[]→a.tmps.size=n→Kn K a→Me w0 gs L w→Q e a w
end
def uw (w:World) (post:Value→List Ent→Prop):Ending→World→Prop :=
 fun e w'=>∃ v N,e=.returned v∧Below w.heap.size w w'∧fx w.heap.size N w'∧post v N
def Fn (P:Program) (f:FuncId) (args:LV) (R:World→Prop) (post:Value→List Ent→Prop):Prop :=
 ∀ w,R w→Calls P f args.toArray w (uw w post)
def Is (v:Value):Value→List Ent→Prop:=fun u _=>u=v
def Tr:World→Prop:=fun _=>True
theorem Fn.weak {P:Program} {f:FuncId} {args:LV} {R R' : World→Prop} {post post' : Value→List Ent→Prop} (h:Fn P f args R post) (hR:∀ w,R' w→R w) (hp:∀ v N,post v N→post' v N):Fn P f args R' post' :=
 fun w hw=>(h w (hR w hw)).mono fun _ _ ⟨v,N,h1,h2,h3,h4⟩=>⟨v,N,h1,h2,h3,hp v N h4⟩
section
variable {P:Program} {w0:World} {gs:List Nat} {n:Nat} {ops:List Oper} {Q:Exit→Act→World→Prop} {K:List (Nat × Value)} {L:List Ent} {rest:List Oper}
variable {d:Nat} {op:Op} {ty:TypeId} {pos:String} {after:Array Edge} {gd:Option (Nat × Bool)}
theorem aD {a:Act} {w w' : World} {v:Value} {L' : List Ent} (hd:d<n) (hw:wk ops K gd=some true) (hdf:a.defers=[]) (hsz:a.tmps.size=n) (hk:Kn K a)
  (h1:(execOp a.eval ⟨some d,op,ty,pos,after,gd⟩).run P w=.ok (.value v) w') (h2:Me w0 gs L' w') (k:WO P w0 gs n ops Q ((d,v)::K) L' rest) :
  wpList P ops.toArray Q (⟨some d,op,ty,pos,after,gd⟩::rest) a w:=by
 refine wpList_step fun F hF=>?_;rw[if_pos (yF (o:=⟨some d,op,ty,pos,after,gd⟩) hk hw)];unfold Oper.wp;rw[h1];exact hF _ _ (k _ _ (by rw[put_defers];exact hdf) (by rw[yk];exact hsz) (hk.put (by omega) v) h2)
theorem afJ {a:Act} {w w' : World} {L' : List Ent} (hw:wk ops K gd=some true) (hdf:a.defers=[]) (hsz:a.tmps.size=n) (hk:Kn K a)
  (h1:(execOp a.eval ⟨none,op,ty,pos,after,gd⟩).run P w=.ok .skip w'∨∃ v,(execOp a.eval ⟨none,op,ty,pos,after,gd⟩).run P w=.ok (.value v) w') (h2:Me w0 gs L' w') (k:WO P w0 gs n ops Q K L' rest) :
  wpList P ops.toArray Q (⟨none,op,ty,pos,after,gd⟩::rest) a w:=by
 refine wpList_step fun F hF=>?_;rw[if_pos (yF (o:=⟨none,op,ty,pos,after,gd⟩) hk hw)];unfold Oper.wp
 rcases h1 with h1|⟨v,h1⟩
 ·rw[h1];exact hF _ _ (k _ _ hdf hsz hk h2)
 ·rw[h1];exact hF _ _ (k _ _ hdf hsz hk h2)
theorem WO.does {v:Value} (h:Does P w0 gs K L op ty v) (k:WO P w0 gs n ops Q ((d,v)::K) L rest) (hd:Nat.blt d n=true:=by rfl) (hw:wk ops K gd=some true:=by rfl) :
  WO P w0 gs n ops Q K L (⟨some d,op,ty,pos,after,gd⟩::rest) :=
 fun a w hdf hsz hk hme=>aD (by simpa [Nat.blt_eq] using hd) hw hdf hsz hk (h a w hk hme.mr _ rfl rfl) hme k
theorem WO.skip (k:WO P w0 gs n ops Q ((d,undef)::K) L rest) (hd:Nat.blt d n=true:=by rfl) (hw:wk ops K gd=some false:=by rfl) :
  WO P w0 gs n ops Q K L (⟨some d,op,ty,pos,after,gd⟩::rest):=by
 intro a w hdf hsz hk hme;refine wpList_step fun F hF=>?_;rw[if_neg (by rw[yF (o:=⟨some d,op,ty,pos,after,gd⟩) hk hw];simp)];have hd' : d<n:=by simpa [Nat.blt_eq] using hd
 exact hF _ _ (k _ _ (by rw[put_defers];exact hdf) (by rw[yk];exact hsz) (hk.put (by omega) undef) hme)
theorem WO.makes {v:Nat→Value} {t:TypeId} {cs:LV} (h:se P w0 gs K L op ty v t cs) (k:∀ g,WO P w0 gs n ops Q ((d,v g)::K) (⟨g,t,cs⟩::L) rest) (hd:Nat.blt d n=true:=by rfl) (hw:wk ops K gd=some true:=by rfl) :
  WO P w0 gs n ops Q K L (⟨some d,op,ty,pos,after,gd⟩::rest) :=
 fun a w hdf hsz hk hme=>aD (by simpa [Nat.blt_eq] using hd) hw hdf hsz hk (h a w hk hme.mr _ rfl rfl) (hme.alloc t cs) (k _)
theorem WO.stores {L' : List Ent} (h:jO P w0 gs K L op ty L') (k:WO P w0 gs n ops Q K L' rest) (hw:wk ops K gd=some true:=by rfl) :
  WO P w0 gs n ops Q K L (⟨none,op,ty,pos,after,gd⟩::rest):=fun a w hdf hsz hk hme =>
 let ⟨_,h1,h2⟩:=h a w hk hme ⟨none,op,ty,pos,after,gd⟩ rfl rfl
 afJ hw hdf hsz hk (.inl h1) h2 k
theorem vr {f:FuncId} [Cal P f] {x:Operand} {xs:Array Operand} {ats:Array TypeId} {ak fs cs:LV} {a:Act} {w:World} {dst:Option Tmp} (hk:Kn K a) (hx:ev K x=some (.func (.func f) fs.toArray cs.toArray))
  (ha:evs K xs.toList=some ak):(execOp a.eval ⟨dst,.call { callee:=.value x,args:=xs,argTypes:=ats },ty,pos,after,gd⟩).run P w=.ok (.enter f (fs++ak++cs).toArray) w:=by
 have e1:xs.map a.eval=ak.toArray:=by have h:=hk.evals ha;apply Array.ext';simpa using h
 simp only[execOp,resolve,e1,hk.eval hx,Deferred.ofValue,Sem.run_bind,Sem.run_pure,Result.andThen_ok,invoke,Cal.run];simp
theorem WO.calls {f:FuncId} [Cal P f] {x:Operand} {xs:Array Operand} {ats:Array TypeId} {ak fs cs ak' : List Value} {R:World→Prop} {post:Value→List Ent→Prop} (hc:Fn P f ak' R post) (hx:ev K x=some (.func (.func f) fs.toArray cs.toArray))
  (ha:evs K xs.toList=some ak) (hh:fs++ak++cs=ak') (hR:∀ w,Mr w0 gs L w→R w) (k:∀ v N,post v N→WO P w0 gs n ops Q ((d,v)::K) (N++L) rest)
  (hd:Nat.blt d n=true:=by rfl) (hw:wk ops K gd=some true:=by rfl) :
  WO P w0 gs n ops Q K L (⟨some d,.call { callee:=.value x,args:=xs,argTypes:=ats },ty,pos,after,gd⟩::rest):=by
 intro a w hdf hsz hk hme;refine wpList_step fun F hF=>?_;rw[if_pos (yF (o:=⟨some d,.call { callee:=.value x,args:=xs,argTypes:=ats },ty,pos,after,gd⟩) hk hw)];have hd' : d<n:=by simpa [Nat.blt_eq] using hd
 unfold Oper.wp;subst hh;rw[vr hk hx ha,Oper.upon_enter];refine (hc w (hR w hme.mr)).mono ?_;rintro e w' ⟨v,N,rfl,hb,hn,hp⟩;exact hF _ _ (k v N hp _ _ (by rw[put_defers];exact hdf) (by rw[yk];exact hsz) (hk.put (by omega) v) (hme.add hb hn))
theorem WO.call {f:FuncId} [Cal P f] {xs:Array Operand} {ats:Array TypeId} {ak:LV} {R:World→Prop} {v:Value} (hc:Fn P f ak R (Is v))
  (ha:evs K xs.toList=some ak) (hR:∀ w,Mr w0 gs L w→R w) (k:WO P w0 gs n ops Q ((d,v)::K) L rest)
  (hd:Nat.blt d n=true:=by rfl) (hw:wk ops K gd=some true:=by rfl) :
  WO P w0 gs n ops Q K L (⟨some d,.call { callee:=.value (.func f),args:=xs,argTypes:=ats },ty,pos,after,gd⟩::rest) :=
 WO.calls (fs:=[]) (cs:=[]) hc rfl ha (by simp) hR (fun u N hu=>by
  cases hu;exact fun a w hdf hsz hk hme=>k a w hdf hsz hk (hme.sub (List.sublist_append_right _ _))) hd hw
def gJ (P:Program) (w0:World) (gs:List Nat) (K:List (Nat × Value)) (L:List Ent) (op:Op) (ty:TypeId) (vf:(Nat→Nat)→Value) (Nf:(Nat→Nat)→List Ent) (S:(Nat→Nat)→Prop):Prop :=
 ∀ a w,Kn K a→Mr w0 gs L w→∀ o:Oper,o.op=op→o.type=ty→∃ x w',(execOp a.eval o).run P w=.ok (.value (vf x)) w'∧S x∧Below w.heap.size w w'∧fx w.heap.size (Nf x) w'
theorem WO.news {vf:(Nat→Nat)→Value} {Nf:(Nat→Nat)→List Ent} {S:(Nat→Nat)→Prop} (h:gJ P w0 gs K L op ty vf Nf S) (k:∀ x,S x→WO P w0 gs n ops Q ((d,vf x)::K) (Nf x++L) rest) (hd:Nat.blt d n=true:=by rfl) (hw:wk ops K gd=some true:=by rfl) :
  WO P w0 gs n ops Q K L (⟨some d,op,ty,pos,after,gd⟩::rest):=fun a w hdf hsz hk hme =>
 let ⟨x,_,h1,h2,h3,h4⟩:=h a w hk hme.mr _ rfl rfl
 aD (by simpa [Nat.blt_eq] using hd) hw hdf hsz hk h1 (hme.add h3 h4) (k x h2)
def Ex (vf:(Nat→Nat)→Value) (Nf:(Nat→Nat)→List Ent) (S:(Nat→Nat)→Prop):Value→List Ent→Prop:=fun v N=>∃ x,v=vf x∧N=Nf x∧S x
theorem WC.skip (k:WX w0 gs n .normal Q K L):WC P w0 gs n .skip Q K L:=fun a w h1 h2 h3 h4=>wp_skip (k a w h1 h2 h3 h4)
theorem WC.label {l:Nat} (k:WX w0 gs n .normal Q K L):WC P w0 gs n (.label l) Q K L:=fun a w h1 h2 h3 h4=>wp_label (k a w h1 h2 h3 h4)
theorem WC.exit {id:Nat} (k:WX w0 gs n (.exit id) Q K L):WC P w0 gs n (.exit id) Q K L:=fun a w h1 h2 h3 h4=>wp_exit (k a w h1 h2 h3 h4)
theorem WC.ret (k:WX w0 gs n .ret Q K L):WC P w0 gs n .ret Q K L:=fun a w h1 h2 h3 h4=>wp_ret (k a w h1 h2 h3 h4)
theorem WC.seq {x y:Code} (k:WC P w0 gs n x (Exit.then (y.wp P Q) Q) K L):WC P w0 gs n (.seq x y) Q K L:=fun a w h1 h2 h3 h4=>wp_seq (k a w h1 h2 h3 h4)
theorem WC.block {id:Nat} {c:Code} (k:WC P w0 gs n c (Exit.inBlock id Q) K L):WC P w0 gs n (.block id c) Q K L:=fun a w h1 h2 h3 h4=>wp_block (k a w h1 h2 h3 h4)
theorem WC.scope {c:Code} (k:WC P w0 gs n c (Exit.noGoto Q) K L):WC P w0 gs n (.scope c) Q K L:=fun a w h1 h2 h3 h4=>wp_scope_straight (k a w h1 h2 h3 h4)
theorem WC.region {id:Nat} {l:List Oper} (k:WO P w0 gs n l Q K L l):WC P w0 gs n (.region id l.toArray false) Q K L:=fun a w h1 h2 h3 h4=>wp_region_lit (k a w h1 h2 h3 h4)
theorem WC.condT {c:Operand} {x y:Code} (hc:ev K c=some (.bool true)) (k:WC P w0 gs n x Q K L):WC P w0 gs n (.cond c x y) Q K L:=fun a w h1 h2 h3 h4=>wp_cond_true (h3.eval hc) (k a w h1 h2 h3 h4)
theorem WC.condF {c:Operand} {x y:Code} (hc:ev K c=some (.bool false)) (k:WC P w0 gs n y Q K L):WC P w0 gs n (.cond c x y) Q K L:=fun a w h1 h2 h3 h4=>wp_cond_false (h3.eval hc) (k a w h1 h2 h3 h4)
theorem WO.nil (k:WX w0 gs n .normal Q K L):WO P w0 gs n ops Q K L []:=fun a w h1 h2 h3 h4=>k a w h1 h2 h3 h4
theorem WX.seq {y:Code} {Q' : Exit→Act→World→Prop} (k:WC P w0 gs n y Q K L):WX w0 gs n .normal (Exit.then (y.wp P Q) Q') K L:=k
theorem WX.then_ret {F:Act→World→Prop} (k:WX w0 gs n .ret Q K L):WX w0 gs n .ret (Exit.then F Q) K L:=k
theorem WX.then_exit {F:Act→World→Prop} {id:Nat} (k:WX w0 gs n (.exit id) Q K L):WX w0 gs n (.exit id) (Exit.then F Q) K L:=k
theorem WX.blk_normal {id:Nat} (k:WX w0 gs n .normal Q K L):WX w0 gs n .normal (Exit.inBlock id Q) K L:=k
theorem WX.blk_ret {id:Nat} (k:WX w0 gs n .ret Q K L):WX w0 gs n .ret (Exit.inBlock id Q) K L:=k
theorem WX.blk_exit {id:Nat} (k:WX w0 gs n .normal Q K L):WX w0 gs n (.exit id) (Exit.inBlock id Q) K L:=fun a w h1 h2 h3 h4=>by
 show (if id=id then Q .normal a w else Q (.exit id) a w);rw[if_pos rfl];exact k a w h1 h2 h3 h4
theorem WX.blk_pass {id id' : Nat} (hne:Nat.beq id' id=false) (k:WX w0 gs n (.exit id') Q K L):WX w0 gs n (.exit id') (Exit.inBlock id Q) K L:=fun a w h1 h2 h3 h4=>by
 show (if id'=id then Q .normal a w else Q (.exit id') a w);rw[if_neg (fun h=>by subst h;rw[Nat.beq_refl] at hne;cases hne)];exact k a w h1 h2 h3 h4
theorem WX.scp_normal (k:WX w0 gs n .normal Q K L):WX w0 gs n .normal (Exit.noGoto Q) K L:=k
theorem WX.scp_ret (k:WX w0 gs n .ret Q K L):WX w0 gs n .ret (Exit.noGoto Q) K L:=k
theorem WX.scp_exit {id:Nat} (k:WX w0 gs n (.exit id) Q K L):WX w0 gs n (.exit id) (Exit.noGoto Q) K L:=k
def Kle:List (Nat × Value)→List (Nat × Value)→Prop
 | [],_=>True
 | (t,v)::r,K=>(∃ u,lk K t=some u∧u=v)∧Kle r K
theorem Kle.kn {K:List (Nat × Value)} {a:Act} (hk:Kn K a):∀ {K' : List (Nat × Value)},Kle K' K→Kn K' a
 | [],_,t,v,h=>by cases h
 | (t',v')::r,⟨⟨u,h1,h2⟩,hr⟩,t,v,h=>by
  unfold lk at h;cases hb:Nat.beq t' t with
  | true =>
   rw[hb] at h;have:t'=t:=Nat.eq_of_beq_eq_true hb;subst this;cases h;exact hk _ _ (h2 ▸ h1)
  | false =>
   rw[hb] at h;exact Kle.kn hk hr t v h
inductive PkK (k:Kd):List Ent→Nat→TypeId→List Value→List Ent→Prop
 | here {L:List Ent} {g:Nat} {t:TypeId} {cs:LV}:PkK k (@Ent.mk g t cs k::L) g t cs L
 | there {L L' : List Ent} {g:Nat} {t:TypeId} {cs:LV} {e:Ent}:PkK k L g t cs L'→PkK k (e::L) g t cs (e::L')
abbrev Pk:List Ent→Nat→TypeId→List Value→List Ent→Prop:=PkK cellsK
theorem Pk.here {k:Kd} {L:List Ent} {g:Nat} {t:TypeId} {cs:LV}:PkK k (@Ent.mk g t cs k::L) g t cs L:=.here
theorem Pk.there {k:Kd} {L L' : List Ent} {g:Nat} {t:TypeId} {cs:LV} {e:Ent} (h:PkK k L g t cs L'):PkK k (e::L) g t cs (e::L'):=.there h
theorem PkK.perm {k:Kd} {L L' : List Ent} {g:Nat} {t:TypeId} {cs:LV} (h:PkK k L g t cs L'):L.Perm (@Ent.mk g t cs k::L'):=by
 induction h with
 | here=>exact .refl _
 | there _ ih=>exact (ih.cons _).trans (.swap ..)
theorem Pk.a {k:Kd} {L L':List Ent} {g:Nat} {t:TypeId} {cs:LV} (h:PkK k L g t cs L':=by repeat (first|exact Pk.here|apply Pk.there)):PkK k L g t cs L':=h
theorem Pk.perm {L L' : List Ent} {g:Nat} {t:TypeId} {cs:LV} (h:Pk L g t cs L'):L.Perm (⟨g,t,cs⟩::L'):=PkK.perm h
def Lle:List Ent→List Ent→Prop
 | [],_=>True
 | e::r,L=>∃ cs L',PkK e.k L e.g e.t cs L'∧cs=e.cs∧Lle r L'
theorem Me.perm {L L' : List Ent} {w:World} (h:Me w0 gs L w) (hp:L.Perm L'):Me w0 gs L' w :=
 ⟨h.mod,fun e he=>h.ok e (hp.mem_iff.2 he),fun e he=>h.mine e (hp.mem_iff.2 he),(hp.map _).nodup_iff.1 h.nodup⟩
theorem Lle.perm:∀ {L' L:List Ent},Lle L' L→∃ R,L.Perm (L'++R)
 | [],L,_=>⟨L,.refl _⟩
 | @Ent.mk g t cs' k::r,L,⟨cs,L1,h1,h2,h3⟩=>by
  simp only at h1 h2;subst h2;obtain⟨R,hR⟩:=Lle.perm h3;exact⟨R,h1.perm.trans (hR.cons _)⟩
theorem Lle.me {L' : List Ent} {w:World} (hl:Lle L' L) (h:Me w0 gs L w):Me w0 gs L' w :=
 let ⟨_,hp⟩:=hl.perm
 (h.perm hp).sub (List.sublist_append_left _ _)
def Met {σ:Type} (w0:World) (gs:List Nat) (n:Nat) (Ks:σ→List (Nat × Value)) (Ls:σ→List Ent) (ok:σ→Prop) (a:Act) (w:World):Prop :=
 ∃ s,ok s∧a.defers=[]∧a.tmps.size=n∧Kn (Ks s) a∧Me w0 gs (Ls s) w
theorem WX.met {σ:Type} {Ks:σ→List (Nat × Value)} {Ls:σ→List Ent} {ok:σ→Prop} (s:σ) (hs:ok s) (hk:Kle (Ks s) K) (hl:Lle (Ls s) L):WX w0 gs n .normal (Exit.then (Met w0 gs n Ks Ls ok) Q) K L :=
 fun _ _ h1 h2 h3 h4=>⟨s,hs,h1,h2,hk.kn h3,hl.me h4⟩
def kin:List Value→Nat→List (Nat × Value)
 | [],_=>[]
 | v::r,i=>(i,v)::kin r (i+1)
theorem v6:∀ (vs:LV) (i t:Nat) (v:Value),lk (kin vs i) t=some v→∃ j,t=i+j∧vs[j]?=some v
 | [],_,_,_,h=>by cases h
 | u::r,i,t,v,h=>by
  unfold kin lk at h;cases hb:Nat.beq i t with
  | true =>
   rw[hb] at h;cases h;exact⟨0,(Nat.eq_of_beq_eq_true hb).symm,rfl⟩
  | false =>
   rw[hb] at h;obtain⟨j,h1,h2⟩:=v6 r (i+1) t v h;exact⟨j+1,by omega,by simpa using h2⟩
theorem Fn.enter {f:FuncId} {fn:Func} {c:Code} {args:LV} {R:World→Prop} {post:Value→List Ent→Prop} (hf:P.funcs[f]?=some fn) (hb:fn.body=some c) (hn:fn.ntmps=n) (hle:Nat.ble args.length n=true)
  (k:∀ w,R w→WC P w [] n c (bodyPost P fn (uw w post)) (kin args 0) []):Fn P f args R post:=by
 intro w hw;refine calls_of_wp hf hb ?_;have hle' : args.length≤n:=by simpa using hle
 refine k w hw _ w rfl (by simp[hn];omega) (fun t v hv=>?_) (Me.refl w []);obtain⟨j,h1,h2⟩:=v6 args 0 t v hv;subst h1;have hj:j<args.length:=by
  rcases Nat.lt_or_ge j args.length with h|h
  ·exact h
  ·rw[List.getElem?_eq_none h] at h2;cases h2
 simp only[Nat.zero_add];rw[Array.getElem?_append_left (by simpa using hj)];simpa using h2
def rvS (tmps:Array Value):ResultVar→Sem Value
 | .tmp t=>pure (tmps.getD t undef)
 | .cell p t=>do loadVar t (← asAddr (tmps.getD p undef))
def Rv (P:Program) (w0:World) (gs:List Nat) (K:List (Nat × Value)) (L:List Ent) (r:ResultVar) (v:Value):Prop :=
 ∀ a w,Kn K a→Me w0 gs L w→(rvS a.tmps r).run P w=.ok v w
theorem zK {t:Nat} {v:Value} (h:lk K t=some v):Rv P w0 gs K L (.tmp t) v:=by
 intro a w hk _;have:=hk.eval (x:=.tmp t) h;simp only[Act.eval] at this;simp only[rvS,this,Sem.run_pure]
theorem zW {p t g off t' n:Nat} {cs vs:LV} [AgT P t n] (hx:lk K p=some (.pointer (some ⟨g,off,none⟩))) (hm:Hs L g t' cs) (hc:cut cs off n=vs) (hl:vs.length=n) :
  Rv P w0 gs K L (.cell p t) (.agg vs.toArray):=by
 intro a w hk hme;have:=hk.eval (x:=.tmp p) hx;simp only[Act.eval] at this;have hok:=hme.ok _ hm.mem;have h1:=vR (P:=P) (t:=t) w g off vs hl (fun j v hj=>by rw[hok.cell (off+j)];exact vb hc hj);simp only[rvS,this,asAddr,Sem.run_bind,Sem.run_pure,Result.andThen_ok,h1]
theorem tJ {p t g off t' : Nat} {cs:LV} {v:Value} [OnT P t] (hx:lk K p=some (.pointer (some ⟨g,off,none⟩))) (hm:Hs L g t' cs) (hc:cs[off]?=some v) :
  Rv P w0 gs K L (.cell p t) v:=by
 intro a w hk hme;have:=hk.eval (x:=.tmp p) hx;simp only[Act.eval] at this;have hok:=hme.ok _ hm.mem;have h1:=vT (P:=P) (t:=t) w g off v (by rw[hok.cell off];exact hc);simp only[rvS,this,asAddr,Sem.run_bind,Sem.run_pure,Result.andThen_ok,h1]
theorem fx.of_me {w0 w:World} {N:List Ent} (h:Me w0 [] N w):fx w0.heap.size N w:=⟨h.ok,fun e he=>(h.mine e he).resolve_right (by simp),h.nodup⟩
theorem WX.ret_of {fn:Func} {post:Value→List Ent→Prop} {v:Value} {N:List Ent} (hr:∀ a w,Kn K a→Me w0 [] L w→(results fn a.tmps).run P w=.ok v w) (hN:Lle N L) (hp:post v N) :
  WX w0 [] n .ret (bodyPost P fn (uw w0 post)) K L:=fun a w h1 _ h3 h4 =>
 ⟨h1,v,hr a w h3 h4,v,N,rfl,h4.mod.below,fx.of_me (hN.me h4),hp⟩
theorem yz (fn:Func) (tmps:Array Value):results fn tmps=(fn.results.mapM (rvS tmps) >>= fun vs=>pure (if h:vs.size=1 then vs[0] else .tuple vs)):=by
 have:rvS tmps=(fun x=>match x with
  | .tmp t=>pure (tmps.getD t undef)
  | .cell p t=>do loadVar t (← asAddr (tmps.getD p undef))):=by funext x;cases x<;>rfl
 rw[this];rfl
theorem ac8 {f:ResultVar→Sem Value} {r1:ResultVar} {v1:Value} {w:World} (h1:(f r1).run P w=.ok v1 w):(#[r1].mapM f).run P w=.ok #[v1] w:=by simp[h1]
theorem aa9 {f:ResultVar→Sem Value} {r1 r2:ResultVar} {v1 v2:Value} {w:World} (h1:(f r1).run P w=.ok v1 w) (h2:(f r2).run P w=.ok v2 w):(#[r1,r2].mapM f).run P w=.ok #[v1,v2] w:=by simp[h1,h2]
theorem ahx {f:ResultVar→Sem Value} {r1 r2 r3:ResultVar} {v1 v2 v3:Value} {w:World} (h1:(f r1).run P w=.ok v1 w) (h2:(f r2).run P w=.ok v2 w) (h3:(f r3).run P w=.ok v3 w):(#[r1,r2,r3].mapM f).run P w=.ok #[v1,v2,v3] w:=by simp[h1,h2,h3]
theorem Rv.t {t:Nat} {v:Value} (h:lk K t=some v:=by rfl):Rv P w0 gs K L (.tmp t) v:=zK h
theorem WX.ret1 {fn:Func} {post:Value→List Ent→Prop} {v:Value} {r:ResultVar} (hfn:fn.results=#[r]) (hr:Rv P w0 [] K L r v) (N:List Ent) (hN:Lle N L) (hp:post v N) :
  WX w0 [] n .ret (bodyPost P fn (uw w0 post)) K L :=
 WX.ret_of (fun a w hk hme=>by
  have h:=ac8 (hr a w hk hme);rw[yz,hfn,Sem.run_bind,h];rfl) hN hp
theorem WX.ret2 {fn:Func} {post:Value→List Ent→Prop} {v1 v2:Value} {r1 r2:ResultVar} (hfn:fn.results=#[r1,r2]) (hr1:Rv P w0 [] K L r1 v1) (hr2:Rv P w0 [] K L r2 v2) (N:List Ent) (hN:Lle N L) (hp:post (.tuple #[v1,v2]) N) :
  WX w0 [] n .ret (bodyPost P fn (uw w0 post)) K L :=
 WX.ret_of (fun a w hk hme=>by
  have h:=aa9 (hr1 a w hk hme) (hr2 a w hk hme);rw[yz,hfn,Sem.run_bind,h];rfl) hN hp
theorem WX.ret3 {fn:Func} {post:Value→List Ent→Prop} {v1 v2 v3:Value} {r1 r2 r3:ResultVar} (hfn:fn.results=#[r1,r2,r3]) (hr1:Rv P w0 [] K L r1 v1) (hr2:Rv P w0 [] K L r2 v2) (hr3:Rv P w0 [] K L r3 v3) (N:List Ent) (hN:Lle N L) (hp:post (.tuple #[v1,v2,v3]) N) :
  WX w0 [] n .ret (bodyPost P fn (uw w0 post)) K L :=
 WX.ret_of (fun a w hk hme=>by
  have h:=ahx (hr1 a w hk hme) (hr2 a w hk hme) (hr3 a w hk hme);rw[yz,hfn,Sem.run_bind,h];rfl) hN hp
end
end Sx
end
end Go.Proofs.YtiaibpcaloigkaaGreatDoor
