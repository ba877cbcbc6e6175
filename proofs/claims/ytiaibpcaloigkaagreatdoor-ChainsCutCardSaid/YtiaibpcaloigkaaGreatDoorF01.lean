/- Part 1 of the proof. -/
import Derived.WalkKit
import Derived.Deep.Draws
import Derived.Laws.Rows
import Derived.BigCall
import Derived.Deep.LoopGhost
import Derived.Lib.Hide
import Derived.Shelf.Small.Bits
import Derived.Shelf.Strconv.Itoa0
import Derived.Shelf.Bits.Mul64
import Derived.Test.YtiaibpcaloigkaaGreatDoorProg
import Derived.Lib.ItoaNum
import Derived.Laws.BitsAllLaws
set_option linter.unusedSimpArgs false
set_option linter.unusedVariables false
namespace Go.Proofs.YtiaibpcaloigkaaGreatDoor
abbrev LP:=List (Nat × Nat)
abbrev LV:=List Go.Value
theorem Dkk {p:Prop} (h:p:=by decide +kernel):p:=h
theorem Sm {p:Prop} (h:p:=by simp):p:=h
theorem Dtt {p:Prop} (h:p:=by decide):p:=h
theorem Kr {p:Prop} (h:p:=by kernel_rfl):p:=h
theorem Om {p:Prop} (h:p:=by omega):p:=h
section
open Go Go.RowKit
namespace Sx
def lk:List (Nat × Value)→Nat→Option Value
 | [],_=>none
 | (k,v)::r,t=>bif Nat.beq k t then some v else lk r t
def ev (K:List (Nat × Value)):Operand→Option Value
 | .tmp t=>lk K t
 | .const v=>some v
 | .global g=>some (.pointer (some ⟨g,0,none⟩))
 | .func f=>some (.func (.func f) #[] #[])
def evs (K:List (Nat × Value)):List Operand→Option (List Value)
 | []=>some []
 | x::r=>match ev K x with
  | some v=>match evs K r with
   | some vs=>some (v::vs)
   | none=>none
  | none=>none
def Kn (K:List (Nat × Value)) (a:Act):Prop:=∀ t v,lk K t=some v→a.tmps[t]?=some v
theorem Kn.eval {K:List (Nat × Value)} {a:Act} (h:Kn K a) {x:Operand} {v:Value} (hx:ev K x=some v):a.eval x=v:=by
 cases x with
 | tmp t =>
  have:=h t v hx;simp only[Act.eval,Array.getD_eq_getD_getElem?,this];rfl
 | const c=>exact Option.some.inj hx
 | global g=>exact Option.some.inj hx
 | func f=>exact Option.some.inj hx
theorem Kn.evals {K:List (Nat × Value)} {a:Act} (h:Kn K a):∀ {xs:List Operand} {vs:LV},evs K xs=some vs→xs.map a.eval=vs
 | [],vs,hx=>by cases hx;rfl
 | x::r,vs,hx=>by
  unfold evs at hx;cases h1:ev K x with
  | none=>rw[h1] at hx;cases hx
  | some v =>
   cases h2:evs K r with
   | none=>rw[h1,h2] at hx;cases hx
   | some us =>
    rw[h1,h2] at hx;cases hx;simp only[List.map_cons,h.eval h1,h.evals h2]
theorem Kn.put {K:List (Nat × Value)} {a:Act} (h:Kn K a) {d:Nat} (hd:d<a.tmps.size) (v:Value):Kn ((d,v)::K) (a.put (some d) v):=by
 intro t u ht;unfold lk at ht;simp only[Act.put]
 by_cases e:d=t
 ·subst e;rw[Nat.beq_refl] at ht;simp only[cond_true] at ht;cases ht;simp[hd]
 ·have:Nat.beq d t=false:=by
   cases hb:Nat.beq d t with
   | false=>rfl
   | true=>exact absurd (Nat.eq_of_beq_eq_true hb) e
  rw[this] at ht;rw[Array.getElem?_setIfInBounds_ne e];exact h t u ht
theorem ym (a:Act) (d:Option Tmp) (v:Value):(a.put d v).tmps.size=a.tmps.size:=by
 cases d<;>simp[Act.put]
theorem put_defers (a:Act) (d:Option Tmp) (v:Value):(a.put d v).defers=a.defers:=by
 cases d<;>rfl
class Kd where
 map:Bool
@[reducible] instance cellsK:Kd:=⟨false⟩
@[reducible] def mapK:Kd:=⟨true⟩
structure Ent where
 g:Nat
 t:TypeId
 cs:List Value
 [k:Kd]
def okK (b:Bool) (g:Nat) (t:TypeId) (cs:LV) (w:World):Prop:=match b with
 | false=>∃ t' fr,w.heap[g]?=some (.cells cs.toArray t' fr)∧(t≠0→t'=t∧fr=(0,0))
 | true=>∃ es clk,w.heap[g]?=some (.map es clk)∧cs=es.toList.flatMap fun x=>[x.key,x.val]
def Ent.ok (e:Ent) (w:World):Prop:=okK e.k.map e.g e.t e.cs w
theorem Ent.ok.of {g:Nat} {t:TypeId} {cs:LV} {w:World} (h:w.heap[g]?=some (.cells cs.toArray t (0,0))):Ent.ok ⟨g,t,cs⟩ w:=⟨_,_,h,fun _=>⟨rfl,rfl⟩⟩
theorem Ent.ok.row {g:Nat} {t:TypeId} {cs:LV} {w:World} (h:Ent.ok ⟨g,t,cs⟩ w) (ht:t≠0):w.heap[g]?=some (.cells cs.toArray t (0,0)):=by
 obtain⟨t',fr,h1,h2⟩:=h;obtain⟨rfl,rfl⟩:=h2 ht;exact h1
theorem okK.keep {b:Bool} {g:Nat} {t:TypeId} {cs:LV} {w w' : World} (h:okK b g t cs w) (he:w'.heap[g]?=w.heap[g]?):okK b g t cs w':=by
 cases b with
 | false=>obtain⟨t',fr,h1,h2⟩:=h;exact⟨t',fr,he.trans h1,h2⟩
 | true=>obtain⟨es,clk,h1,h2⟩:=h;exact⟨es,clk,he.trans h1,h2⟩
theorem Ent.ok.keep {e:Ent} {w w' : World} (h:e.ok w) (he:w'.heap[e.g]?=w.heap[e.g]?):e.ok w':=okK.keep h he
structure Mod (gs:List Nat) (w w' : World):Prop where
 os:w'.os=w.os
 tape:w'.tape=w.tape
 output:w'.output=w.output
 size:w.heap.size≤w'.heap.size
 block:∀ k,k<w.heap.size→k ∉ gs→w'.heap[k]?=w.heap[k]?
theorem Mod.refl (gs:List Nat) (w:World):Mod gs w w:=⟨rfl,rfl,rfl,Nat.le_refl _,fun _ _ _=>rfl⟩
theorem Mod.trans {gs:List Nat} {a b c:World} (h:Mod gs a b) (k:Mod gs b c):Mod gs a c :=
 ⟨k.os.trans h.os,k.tape.trans h.tape,k.output.trans h.output,Nat.le_trans h.size k.size,fun i hi hn=>(k.block i (Nat.lt_of_lt_of_le hi h.size) hn).trans (h.block i hi hn)⟩
theorem Mod.of_below {w w' : World} (h:Below w.heap.size w w') (gs:List Nat):Mod gs w w':=⟨h.os,h.tape,h.output,h.size,fun k hk _=>h.block k hk⟩
theorem Mod.below {w w' : World} (h:Mod [] w w'):Below w.heap.size w w':=⟨h.os,h.tape,h.output,h.size,fun k hk=>h.block k hk Sm⟩
structure Me (w0:World) (gs:List Nat) (L:List Ent) (w:World):Prop where
 mod:Mod gs w0 w
 ok:∀ e∈L,e.ok w
 mine:∀ e∈L,w0.heap.size≤e.g∨e.g∈gs
 nodup:(L.map Ent.g).Nodup
structure Mr (w0:World) (gs:List Nat) (L:List Ent) (w:World):Prop where
 mod:Mod gs w0 w
 ok:∀ e∈L,e.ok w
theorem Me.mr {w0 w:World} {gs:List Nat} {L:List Ent} (h:Me w0 gs L w):Mr w0 gs L w:=⟨h.mod,h.ok⟩
theorem okK.lt {b:Bool} {g:Nat} {t:TypeId} {cs:LV} {w:World} (h:okK b g t cs w):g<w.heap.size:=by
 rcases Nat.lt_or_ge g w.heap.size with hlt|hge
 ·exact hlt
 ·exfalso;cases b with
  | false=>obtain⟨t,fr,h1,_⟩:=h;rw[Array.getElem?_eq_none hge] at h1;cases h1
  | true=>obtain⟨t,fr,h1,_⟩:=h;rw[Array.getElem?_eq_none hge] at h1;cases h1
theorem Ent.ok.lt {e:Ent} {w:World} (h:e.ok w):e.g<w.heap.size:=okK.lt h
theorem Me.refl (w0:World) (gs:List Nat):Me w0 gs [] w0:=⟨.refl _ _,by simp,by simp,by simp⟩
theorem Me.below {w0 w w' : World} {gs:List Nat} {L:List Ent} (h:Me w0 gs L w) (hb:Below w.heap.size w w'):Me w0 gs L w' :=
 ⟨h.mod.trans (.of_below hb gs),fun e he=>(h.ok e he).keep (hb.block e.g (h.ok e he).lt),h.mine,h.nodup⟩
theorem Me.alloc {w0 w:World} {gs:List Nat} {L:List Ent} (h:Me w0 gs L w) (t:TypeId) (cs:LV):Me w0 gs (⟨w.heap.size,t,cs⟩::L) (w.alloc (.cells cs.toArray t)):=by
 have h':=h.below ((Below.refl w.heap.size w).alloc (Nat.le_refl _) (.cells cs.toArray t));refine⟨h'.mod,?_,?_,?_⟩
 ·intro e he
  rcases List.mem_cons.1 he with rfl|he
  ·exact .of (heap_alloc_new w _)
  ·exact h'.ok e he
 ·intro e he
  rcases List.mem_cons.1 he with rfl|he
  ·exact .inl h.mod.size
  ·exact h.mine e he
 ·rw[List.map_cons,List.nodup_cons];refine⟨fun hm=>?_,h.nodup⟩;obtain⟨e,he,hg⟩:=List.mem_map.1 hm;have:=(h.ok e he).lt;simp only at hg;omega
structure fF (B:Nat) (N:List Ent) (w:World):Prop where
 ok:∀ e∈N,e.ok w
 new:∀ e∈N,B≤e.g
 nodup:(N.map Ent.g).Nodup
theorem fF.nil (B:Nat) (w:World):fF B [] w:=⟨by simp,by simp,by simp⟩
theorem Me.add {w0 w w' : World} {gs:List Nat} {L N:List Ent} (h:Me w0 gs L w) (hb:Below w.heap.size w w') (hn:fF w.heap.size N w'):Me w0 gs (N++L) w':=by
 have h':=h.below hb;refine⟨h'.mod,fun e he=>?_,fun e he=>?_,?_⟩
 ·rcases List.mem_append.1 he with he|he
  ·exact hn.ok e he
  ·exact h'.ok e he
 ·rcases List.mem_append.1 he with he|he
  ·exact .inl (Nat.le_trans h.mod.size (hn.new e he))
  ·exact h.mine e he
 ·rw[List.map_append,List.nodup_append];refine⟨hn.nodup,h.nodup,fun x hx y hy e=>?_⟩;obtain⟨e1,he1,rfl⟩:=List.mem_map.1 hx;obtain⟨e2,he2,rfl⟩:=List.mem_map.1 hy;have:=hn.new e1 he1;have:=(h.ok e2 he2).lt;omega
theorem Me.sub {w0 w:World} {gs:List Nat} {L L' : List Ent} (h:Me w0 gs L w) (hs:L'.Sublist L):Me w0 gs L' w :=
 ⟨h.mod,fun e he=>h.ok e (hs.subset he),fun e he=>h.mine e (hs.subset he),h.nodup.sublist (hs.map _)⟩
inductive Hs:List Ent→Nat→TypeId→List Value→Prop
 | here {L:List Ent} {g:Nat} {t:TypeId} {cs:LV}:Hs (⟨g,t,cs⟩::L) g t cs
 | there {L:List Ent} {g:Nat} {t:TypeId} {cs:LV} {e:Ent}:Hs L g t cs→Hs (e::L) g t cs
theorem Hs.a {L:List Ent} {g:Nat} {t:TypeId} {cs:LV} (h:Hs L g t cs:=by repeat (first|exact Hs.here|apply Hs.there)):Hs L g t cs:=h
theorem Hs.mem {L:List Ent} {g:Nat} {t:TypeId} {cs:LV} (h:Hs L g t cs):(⟨g,t,cs⟩ : Ent)∈L:=by
 induction h with
 | here=>simp
 | there _ ih=>exact List.mem_cons_of_mem _ ih
inductive Rp:List Ent→Nat→TypeId→List Value→List Value→List Ent→Prop
 | here {L:List Ent} {g:Nat} {t:TypeId} {cs cs' : List Value}:Rp (⟨g,t,cs⟩::L) g t cs cs' (⟨g,t,cs'⟩::L)
 | there {L L' : List Ent} {g:Nat} {t:TypeId} {cs cs' : List Value} {e:Ent}:Rp L g t cs cs' L'→Rp (e::L) g t cs cs' (e::L')
theorem Rp.mem {L L' : List Ent} {g:Nat} {t:TypeId} {cs cs' : List Value} (h:Rp L g t cs cs' L'):(⟨g,t,cs⟩ : Ent)∈L:=by
 induction h with
 | here=>simp
 | there _ ih=>exact List.mem_cons_of_mem _ ih
theorem Rp.gs {L L' : List Ent} {g:Nat} {t:TypeId} {cs cs' : List Value} (h:Rp L g t cs cs' L'):L'.map Ent.g=L.map Ent.g:=by
 induction h with
 | here=>rfl
 | there _ ih=>simp[ih]
theorem Rp.at {L L' : List Ent} {g:Nat} {t:TypeId} {cs cs' : List Value} (h:Rp L g t cs cs' L'):(L.map Ent.g).Nodup→∀ e∈L',e=⟨g,t,cs'⟩∨(e∈L∧e.g≠g):=by
 induction h with
 | here =>
  intro hn e he
  rcases List.mem_cons.1 he with rfl|he
  ·exact .inl rfl
  ·refine .inr ⟨List.mem_cons_of_mem _ he,fun hg=>?_⟩;rw[List.map_cons,List.nodup_cons] at hn;exact hn.1 (List.mem_map.2 ⟨e,he,hg⟩)
 | there hr ih =>
  intro hn e he;rw[List.map_cons,List.nodup_cons] at hn
  rcases List.mem_cons.1 he with rfl|he
  ·refine .inr ⟨by simp,fun hg=>?_⟩;exact hn.1 (List.mem_map.2 ⟨_,hr.mem,hg.symm⟩)
  ·rcases ih hn.2 e he with h1|h1
   ·exact .inl h1
   ·exact .inr ⟨List.mem_cons_of_mem _ h1.1,h1.2⟩
theorem Me.write {w0 w w' : World} {gs:List Nat} {L L' : List Ent} {g:Nat} {t:TypeId} {cs cs' : List Value} (h:Me w0 gs L w) (hr:Rp L g t cs cs' L')
  (hos:w'.os=w.os) (htape:w'.tape=w.tape) (hout:w'.output=w.output) (hsz:w.heap.size≤w'.heap.size)
  (hne:∀ k,k<w.heap.size→k≠g→w'.heap[k]?=w.heap[k]?) (hg:w'.heap[g]?=some (.cells cs'.toArray t (0,0))):Me w0 gs L' w':=by
 have hm:=h.mine _ hr.mem;refine⟨⟨hos.trans h.mod.os,htape.trans h.mod.tape,hout.trans h.mod.output,Nat.le_trans h.mod.size hsz,fun k hk hn=>?_⟩,fun e he=>?_,fun e he=>?_,?_⟩
 ·refine (hne k (Nat.lt_of_lt_of_le hk h.mod.size) (fun e=>?_)).trans (h.mod.block k hk hn);subst e
  rcases hm with hm|hm
  ·simp only at hm;omega
  ·exact hn hm
 ·rcases hr.at h.nodup e he with rfl|⟨he,hne'⟩
  ·exact .of hg
  ·exact (h.ok e he).keep (hne e.g (h.ok e he).lt hne')
 ·rcases hr.at h.nodup e he with rfl|⟨he,_⟩
  ·exact hm
  ·exact h.mine e he
 ·rw[hr.gs];exact h.nodup
def Seg (w:World) (b off:Nat) (cs:LV):Prop:=∀ i v,cs[i]?=some v→w.cell? ⟨b,off+i,none⟩=some v
theorem pF {w:World} {p:Addr} {v:Value} (h:w.cell? p=some v):p.block<w.heap.size:=by
 rcases Nat.lt_or_ge p.block w.heap.size with h1|h1
 ·exact h1
 ·unfold World.cell? at h;rw[Array.getElem?_eq_none h1] at h;cases h
theorem Seg.mod {w w' : World} {b off:Nat} {cs:LV} {gs:List Nat} (h:Seg w b off cs) (hm:Mod gs w w') (hb:b ∉ gs):Seg w' b off cs:=by
 intro i v hv;have h1:=h i v hv;have h2:w'.heap[b]?=w.heap[b]?:=hm.block b (pF h1) hb;rw[← h1];exact World.cell?_of_block (w:=w) h2
theorem Ent.ok.cell {g:Nat} {t:TypeId} {cs:LV} {w:World} (h:Ent.ok ⟨g,t,cs⟩ w) (i:Nat):w.cell? ⟨g,i,none⟩=cs[i]?:=by
 obtain⟨t,fr,h1,_⟩:=h;rw[cell_of_row w g i cs.toArray t fr h1];simp
theorem Ent.ok.seg {g:Nat} {t:TypeId} {cs:LV} {w:World} (h:Ent.ok ⟨g,t,cs⟩ w) (off:Nat):Seg w g off (cs.drop off):=by
 intro i v hv;rw[h.cell,← hv,List.getElem?_drop]
end Sx
end
section
open Go Go.RowKit Go.BigFrame
namespace Sx
class AgT (P:Program) (t:TypeId) (n:outParam Nat):Prop where
 agg:∀ w,(isAgg t).run P w=.ok true w
 size:∀ w,(sizeOf t).run P w=.ok n w
class OnT (P:Program) (t:TypeId):Prop where
 agg:∀ w,(isAgg t).run P w=.ok false w
 size:∀ w,(sizeOf t).run P w=.ok 1 w
class ZeT (P:Program) (t:TypeId) (v:outParam Value):Prop where
 zero:∀ w,(zeroValue t).run P w=.ok v w
class FlT (P:Program) (s:TypeId) (i:Nat) (off:outParam Nat):Prop where
 place:∀ w a,(Instr.fieldAt s (.pointer (some a)) i).run P w=.ok (.pointer (some (a.add off))) w
class ArT (P:Program) (t:TypeId) (len elem size:outParam Nat):Prop where
 under:P.underlying t=some (.array len elem)
 size:∀ w,(sizeOf elem).run P w=.ok size w
class SlT (P:Program) (t:TypeId) (elem size:outParam Nat):Prop where
 under:P.underlying t=some (.slice elem)
 size:∀ w,(sizeOf elem).run P w=.ok size w
class Cal (P:Program) (f:FuncId):Prop where
 run:∀ args w,(callFunc f args).run P w=.ok (.enter f args) w
theorem vM (g o j:Nat):(⟨g,o,none⟩ : Addr).add j=⟨g,o+j,none⟩:=by
 unfold Addr.add;split
 ·rename_i h;simp[h]
 ·rfl
section
variable {P:Program} {w0:World} {gs:List Nat} {K:List (Nat × Value)} {L:List Ent}
def Does (P:Program) (w0:World) (gs:List Nat) (K:List (Nat × Value)) (L:List Ent) (op:Op) (ty:TypeId) (v:Value):Prop :=
 ∀ a w,Kn K a→Mr w0 gs L w→∀ o:Oper,o.op=op→o.type=ty→(execOp a.eval o).run P w=.ok (.value v) w
def cut (cs:LV) (off n:Nat):List Value:=(cs.drop off).take n
theorem vg {cs vs:LV} {off n:Nat} (h:cut cs off n=vs) {j:Nat} {v:Value} (hj:vs[j]?=some v):cs[off+j]?=some v:=by
 subst h;unfold cut at hj;rw[List.getElem?_take] at hj
 split at hj
 ·rwa [List.getElem?_drop] at hj
 ·cases hj
theorem vW {t n:Nat} [AgT P t n] (w:World) (g off:Nat) (vs:LV) (hl:vs.length=n) (h:∀ j v,vs[j]?=some v→w.cell? ⟨g,off+j,none⟩=some v) :
  (loadVar t ⟨g,off,none⟩).run P w=.ok (.agg vs.toArray) w:=by
 have h1:=run_loadCells_list (P:=P) w ⟨g,off,none⟩ vs (fun j v hv=>by rw[vM];exact h j v hv);unfold loadVar;subst hl;simp only[Sem.run_bind,AgT.agg (P:=P) (t:=t) w,AgT.size (P:=P) (t:=t) w,Result.andThen_ok,if_true,h1];rfl
theorem vY {t:Nat} [OnT P t] (w:World) (g off:Nat) (v:Value) (h:w.cell? ⟨g,off,none⟩=some v) :
  (loadVar t ⟨g,off,none⟩).run P w=.ok v w:=by
 unfold loadVar;simp only[Sem.run_bind,OnT.agg (P:=P) (t:=t) w,Result.andThen_ok,Bool.false_eq_true,if_false,run_load,h]
theorem vV {x:Operand} {ty:TypeId} {v:Value} (hx:ev K x=some v):Does P w0 gs K L (.move x) ty v:=by
 intro a w hk _ o ho _;simp only[execOp,ho,hk.eval hx];rfl
theorem kd {x:Operand} {ty:TypeId} {v:Value} (hx:ev K x=some v):Does P w0 gs K L (.assign x) ty v:=by
 intro a w hk _ o ho _;simp only[execOp,ho,hk.eval hx];rfl
theorem iQ {c x y:Operand} {ty:TypeId} {v:Value} (hc:ev K c=some (.bool true)) (hx:ev K x=some v):Does P w0 gs K L (.pick c x y) ty v:=by
 intro a w hk _ o ho _;simp only[execOp,ho,hk.eval hx,hk.eval hc];rfl
theorem gT {c x y:Operand} {ty:TypeId} {v:Value} (hc:ev K c=some (.bool false)) (hy:ev K y=some v):Does P w0 gs K L (.pick c x y) ty v:=by
 intro a w hk _ o ho _;simp only[execOp,ho,hk.eval hy,hk.eval hc];rfl
theorem bf {t g off t' n:Nat} {cs vs:LV} {x:Operand} {ty:TypeId} [AgT P t n] (hx:ev K x=some (.pointer (some ⟨g,off,none⟩)))
  (hm:Hs L g t' cs) (hc:cut cs off n=vs) (hl:vs.length=n):Does P w0 gs K L (.load t x) ty (.agg vs.toArray):=by
 intro a w hk hme o ho _;have hok:=hme.ok _ hm.mem;have h1:=vW (P:=P) (t:=t) w g off vs hl (fun j v hj=>by rw[hok.cell (off+j)];exact vg hc hj);simp only[execOp,ho,hk.eval hx,Instr.loadAt,Instr.sureAddr,Sem.run_bind,Sem.run_pure,Result.andThen_ok,h1]
theorem fE {t g off t' : Nat} {cs:LV} {v:Value} {x:Operand} {ty:TypeId} [OnT P t] (hx:ev K x=some (.pointer (some ⟨g,off,none⟩)))
  (hm:Hs L g t' cs) (hc:cs[off]?=some v):Does P w0 gs K L (.load t x) ty v:=by
 intro a w hk hme o ho _;have hok:=hme.ok _ hm.mem;have h1:=vY (P:=P) (t:=t) w g off v (by rw[hok.cell off];exact hc);simp only[execOp,ho,hk.eval hx,Instr.loadAt,Instr.sureAddr,Sem.run_bind,Sem.run_pure,Result.andThen_ok,h1]
theorem uj {t b off n i:Nat} {cs vs:LV} {x:Operand} {ty:TypeId} [AgT P t n] (hs:Seg w0 b off cs) (hx:ev K x=some (.pointer (some ⟨b,off+i,none⟩)))
  (hb:b ∉ gs) (hc:cut cs i n=vs) (hl:vs.length=n):Does P w0 gs K L (.load t x) ty (.agg vs.toArray):=by
 intro a w hk hme o ho _;have hs':=hs.mod hme.mod hb;have h1:=vW (P:=P) (t:=t) w b (off+i) vs hl (fun j v hj=>by rw[Nat.add_assoc];exact hs' (i+j) v (vg hc hj));simp only[execOp,ho,hk.eval hx,Instr.loadAt,Instr.sureAddr,Sem.run_bind,Sem.run_pure,Result.andThen_ok,h1]
theorem vS {t b off i:Nat} {cs:LV} {v:Value} {x:Operand} {ty:TypeId} [OnT P t] (hs:Seg w0 b off cs) (hx:ev K x=some (.pointer (some ⟨b,off+i,none⟩)))
  (hb:b ∉ gs) (hc:cs[i]?=some v):Does P w0 gs K L (.load t x) ty v:=by
 intro a w hk hme o ho _;have h1:=vY (P:=P) (t:=t) w b (off+i) v (hs.mod hme.mod hb i v hc);simp only[execOp,ho,hk.eval hx,Instr.loadAt,Instr.sureAddr,Sem.run_bind,Sem.run_pure,Result.andThen_ok,h1]
theorem qq {s i off g o o' : Nat} {x:Operand} {ty:TypeId} [FlT P s i off] (hx:ev K x=some (.pointer (some ⟨g,o,none⟩))) (ho:o+off=o') :
  Does P w0 gs K L (.fieldAddr s x i) ty (.pointer (some ⟨g,o',none⟩)):=by
 intro a w hk _ oo hoo _;subst ho;have:=FlT.place (P:=P) (s:=s) (i:=i) (off:=off) w ⟨g,o,none⟩;rw[vM] at this;simp only[execOp,hoo,hk.eval hx,Sem.run_bind,this,Result.andThen_ok,Sem.run_pure]
theorem oJ {x:Operand} {ty:TypeId} {p:Addr} (hx:ev K x=some (.pointer (some p))):Does P w0 gs K L (.nilCheck x) ty (.pointer (some p)):=by
 intro a w hk _ o ho _;simp only[execOp,ho,hk.eval hx];rfl
theorem vn {t g o i len elem size o' : Nat} {k:IntKind} {x y:Operand} {ty:TypeId} [ArT P t len elem size] (hx:ev K x=some (.pointer (some ⟨g,o,none⟩)))
  (hy:ev K y=some (.int k (i:Int))) (hi:i<len) (ho:o+i*size=o'):Does P w0 gs K L (.indexAddr t x y) ty (.pointer (some ⟨g,o',none⟩)):=by
 intro a w hk _ oo hoo _;subst ho;have hu:∀ w,(underlying t).run P w=.ok (.array len elem) w:=fun w=>by simp[underlying,ArT.under (P:=P) (t:=t)]
 simp only[execOp,hoo,hk.eval hx,hk.eval hy,Instr.indexAt,asIntOf,Instr.sureAddr,Sem.run_bind,Sem.run_pure,Result.andThen_ok,hu];rw[if_pos ⟨by omega,by omega⟩];simp only[Sem.run_bind,ArT.size (P:=P) (t:=t),Result.andThen_ok,Sem.run_pure,Int.toNat_natCast,vM]
theorem zb {t g o i len cap elem size o' : Nat} {k:IntKind} {x y:Operand} {ty:TypeId} [SlT P t elem size] (hx:ev K x=some (.slice (some ⟨g,o,none⟩) len cap))
  (hy:ev K y=some (.int k (i:Int))) (hi:i<len) (ho:o+i*size=o'):Does P w0 gs K L (.indexAddr t x y) ty (.pointer (some ⟨g,o',none⟩)):=by
 intro a w hk _ oo hoo _;subst ho;have hu:∀ w,(underlying t).run P w=.ok (.slice elem) w:=fun w=>by simp[underlying,SlT.under (P:=P) (t:=t)]
 simp only[execOp,hoo,hk.eval hx,hk.eval hy,Instr.indexAt,asIntOf,Sem.run_bind,Sem.run_pure,Result.andThen_ok,hu];rw[if_pos ⟨by omega,by omega⟩];simp only[Sem.run_bind,SlT.size (P:=P) (t:=t),Result.andThen_ok,Sem.run_pure,Int.toNat_natCast,vM]
theorem nR {x:Operand} {ty:TypeId} {i:Nat} {vs:LV} {v:Value} (hx:ev K x=some (.tuple vs.toArray)) (hi:vs[i]?=some v):Does P w0 gs K L (.extract x i) ty v:=by
 intro a w hk _ o ho _;have:vs.toArray[i]?=some v:=by simpa using hi
 simp only[execOp,ho,hk.eval hx,Instr.extract,this,Sem.run_bind,Sem.run_pure,Result.andThen_ok]
theorem rb {x:Operand} {t ty:TypeId} {b:Bool} (hx:ev K x=some (.bool b)):Does P w0 gs K L (.unOp .not t x) ty (.bool !b):=by
 intro a w hk _ o ho _;simp only[execOp,ho,hk.eval hx];rfl
theorem jv {x:Operand} {t ty:TypeId} {k:IntKind} {n:Int} (hx:ev K x=some (.int k n)):Does P w0 gs K L (.unOp .neg t x) ty (.int k (k.wrap (0 - n))):=by
 intro a w hk _ o ho _;simp only[execOp,ho,hk.eval hx];rfl
theorem zH {fn:Fn} {first captured:Array Operand} {fs cs:LV} {ty:TypeId} (h1:evs K first.toList=some fs) (h2:evs K captured.toList=some cs) :
  Does P w0 gs K L (.makeFunc fn first captured) ty (.func fn fs.toArray cs.toArray):=by
 intro a w hk _ o ho _;have e1:first.map a.eval=fs.toArray:=by have h:=hk.evals h1;apply Array.ext';simpa using h
 have e2:captured.map a.eval=cs.toArray:=by have h:=hk.evals h2;apply Array.ext';simpa using h
 simp only[execOp,ho,e1,e2];rfl
theorem lT (op:BinOp) (t:TypeId) (x y:Operand) (k k' : IntKind) (a b:Int) (w:World):(eqGuard op t x y (.int k a) (.int k' b)).run P w=.ok () w:=by
 unfold eqGuard;split<;>rfl
theorem yp {op:BinOp} {x y:Operand} {t yt ty:TypeId} {k k' : IntKind} {m n:Int} {v:Value} (hx:ev K x=some (.int k m)) (hy:ev K y=some (.int k' n))
  (h:∀ w,(binOp op t (.int k m) (.int k' n)).run P w=.ok v w):Does P w0 gs K L (.binOp op t x y yt) ty v:=by
 intro a w hk _ o ho _;simp only[execOp,ho,hk.eval hx,hk.eval hy,Sem.run_bind,lT,Result.andThen_ok,h,Sem.run_pure]
theorem zi {x y:Operand} {t yt ty:TypeId} {k:IntKind} {m n r:Int} (hx:ev K x=some (.int k m)) (hy:ev K y=some (.int k n)) (hr:k.wrap (m+n)=r) :
  Does P w0 gs K L (.binOp .add t x y yt) ty (.int k r):=by
 refine yp hx hy (fun w=>?_);subst hr;simp[binOp,Op.intArith]
theorem zG {x y:Operand} {t yt ty:TypeId} {k:IntKind} {m n r:Int} (hx:ev K x=some (.int k m)) (hy:ev K y=some (.int k n)) (hr:k.wrap (m - n)=r) :
  Does P w0 gs K L (.binOp .sub t x y yt) ty (.int k r):=by
 refine yp hx hy (fun w=>?_);subst hr;simp[binOp,Op.intArith]
theorem yq {x y:Operand} {t yt ty:TypeId} {k:IntKind} {m n r:Int} (hx:ev K x=some (.int k m)) (hy:ev K y=some (.int k n)) (hr:k.wrap (m*n)=r) :
  Does P w0 gs K L (.binOp .mul t x y yt) ty (.int k r):=by
 refine yp hx hy (fun w=>?_);subst hr;simp[binOp,Op.intArith]
theorem ua {x y:Operand} {t yt ty:TypeId} {k:IntKind} {m n r:Int} (hx:ev K x=some (.int k m)) (hy:ev K y=some (.int k n)) (hn:n≠0) (hr:k.wrap (m.tdiv n)=r) :
  Does P w0 gs K L (.binOp .quo t x y yt) ty (.int k r):=by
 refine yp hx hy (fun w=>?_);subst hr;simp[binOp,Op.intDiv,hn]
theorem yB {x y:Operand} {t yt ty:TypeId} {k:IntKind} {m n r:Int} (hx:ev K x=some (.int k m)) (hy:ev K y=some (.int k n)) (hn:n≠0) (hr:m.tmod n=r) :
  Does P w0 gs K L (.binOp .rem t x y yt) ty (.int k r):=by
 refine yp hx hy (fun w=>?_);subst hr;simp[binOp,Op.intDiv,hn]
theorem sZ {x y:Operand} {t yt ty:TypeId} {k k' : IntKind} {m n r:Int} (hx:ev K x=some (.int k m)) (hy:ev K y=some (.int k' n)) (hn:0≤n) (hr:k.wrap (m*2 ^ (min n.toNat k.bits))=r) :
  Does P w0 gs K L (.binOp .shl t x y yt) ty (.int k r):=by
 refine yp hx hy (fun w=>?_);subst hr;simp[binOp,Op.shift,Int.not_lt.2 hn]
theorem vr {x y:Operand} {t yt ty:TypeId} {k k' : IntKind} {m n r:Int} (hx:ev K x=some (.int k m)) (hy:ev K y=some (.int k' n)) (hn:0≤n) (hr:m.fdiv (2 ^ (min n.toNat k.bits))=r) :
  Does P w0 gs K L (.binOp .shr t x y yt) ty (.int k r):=by
 refine yp hx hy (fun w=>?_);subst hr;simp[binOp,Op.shift,Int.not_lt.2 hn]
theorem tI {x y:Operand} {t yt ty:TypeId} {k:IntKind} {m n r:Int} (hx:ev K x=some (.int k m)) (hy:ev K y=some (.int k n)) (hr:k.wrap ((BitVec.ofInt k.bits m &&& BitVec.ofInt k.bits n).toNat)=r) :
  Does P w0 gs K L (.binOp .and t x y yt) ty (.int k r):=by
 refine yp hx hy (fun w=>?_);subst hr;simp[binOp,Op.intBits]
theorem uC {x y:Operand} {t yt ty:TypeId} {k:IntKind} {m n r:Int} (hx:ev K x=some (.int k m)) (hy:ev K y=some (.int k n)) (hr:k.wrap ((BitVec.ofInt k.bits m ||| BitVec.ofInt k.bits n).toNat)=r) :
  Does P w0 gs K L (.binOp .or t x y yt) ty (.int k r):=by
 refine yp hx hy (fun w=>?_);subst hr;simp[binOp,Op.intBits]
theorem jY {x y:Operand} {t yt ty:TypeId} {k:IntKind} {m n r:Int} (hx:ev K x=some (.int k m)) (hy:ev K y=some (.int k n)) (hr:k.wrap ((BitVec.ofInt k.bits m ^^^ BitVec.ofInt k.bits n).toNat)=r) :
  Does P w0 gs K L (.binOp .xor t x y yt) ty (.int k r):=by
 refine yp hx hy (fun w=>?_);subst hr;simp[binOp,Op.intBits]
theorem oR {x y:Operand} {t yt ty:TypeId} {k:IntKind} {m n:Int} (hx:ev K x=some (.int k m)) (hy:ev K y=some (.int k n)) :
  Does P w0 gs K L (.binOp .eql t x y yt) ty (.bool (decide (m=n))):=by
 refine yp hx hy (fun w=>?_);have:(m == n)=decide (m=n):=by by_cases h:m=n<;>simp[h]
 rw[← this];cases k<;>rfl
theorem nk {x y:Operand} {t yt ty:TypeId} {k:IntKind} {m n:Int} (hx:ev K x=some (.int k m)) (hy:ev K y=some (.int k n)) :
  Does P w0 gs K L (.binOp .neq t x y yt) ty (.bool (decide (m≠n))):=by
 refine yp hx hy (fun w=>?_);have:(m != n)=decide (m≠n):=by by_cases h:m=n<;>simp[h]
 rw[← this];cases k<;>rfl
theorem pJ {x y:Operand} {t yt ty:TypeId} {k:IntKind} {m n:Int} (hx:ev K x=some (.int k m)) (hy:ev K y=some (.int k n)) :
  Does P w0 gs K L (.binOp .lss t x y yt) ty (.bool (decide (m<n))):=by
 refine yp hx hy (fun w=>?_);simp[binOp,Op.intCmp]
theorem oc {x y:Operand} {t yt ty:TypeId} {k:IntKind} {m n:Int} (hx:ev K x=some (.int k m)) (hy:ev K y=some (.int k n)) :
  Does P w0 gs K L (.binOp .leq t x y yt) ty (.bool (decide (m≤n))):=by
 refine yp hx hy (fun w=>?_);simp[binOp,Op.intCmp]
theorem ni {x y:Operand} {t yt ty:TypeId} {k:IntKind} {m n:Int} (hx:ev K x=some (.int k m)) (hy:ev K y=some (.int k n)) :
  Does P w0 gs K L (.binOp .gtr t x y yt) ty (.bool (decide (n<m))):=by
 refine yp hx hy (fun w=>?_);simp[binOp,Op.intCmp]
theorem pI {x y:Operand} {t yt ty:TypeId} {k:IntKind} {m n:Int} (hx:ev K x=some (.int k m)) (hy:ev K y=some (.int k n)) :
  Does P w0 gs K L (.binOp .geq t x y yt) ty (.bool (decide (n≤m))):=by
 refine yp hx hy (fun w=>?_);simp[binOp,Op.intCmp]
class InT (P:Program) (t:TypeId) (k:outParam IntKind):Prop where
 under:P.underlying t=some (.int k)
theorem zr {s t ty:TypeId} {x:Operand} {k k' : IntKind} {n r:Int} [InT P s k'] [InT P t k] (hx:ev K x=some (.int k' n)) (hr:k.wrap n=r):Does P w0 gs K L (.convert s t x) ty (.int k r):=by
 intro a w hk _ o ho _;subst hr;have h1:∀ w,(underlying s).run P w=.ok (.int k') w:=fun w=>by simp[underlying,InT.under (P:=P) (t:=s)]
 have h2:∀ w,(underlying t).run P w=.ok (.int k) w:=fun w=>by simp[underlying,InT.under (P:=P) (t:=t)]
 simp only[execOp,ho,hk.eval hx,convert,Sem.run_bind,h1,h2,Result.andThen_ok,Conv.intToInt,Sem.run_pure]
theorem eB {x:Operand} {t ty elem size:Nat} {p:Option Addr} {n c:Nat} [SlT P t elem size] (hx:ev K x=some (.slice p n c)) :
  Does P w0 gs K L (.call { callee:=.builtin .len,args:=#[x],argTypes:=#[t] }) ty (.int .i64 (n:Int)):=by
 intro a w hk _ o ho _;have hu:∀ w,(underlying t).run P w=.ok (.slice elem) w:=fun w=>by simp[underlying,SlT.under (P:=P) (t:=t)]
 obtain⟨dst,op,ty',pos,after,guard⟩:=o;subst ho;rw[execOp_builtin];simp only[builtin_len,List.map_toArray,List.map_cons,List.map_nil,hk.eval hx,Builtin.len_,Sem.run_bind];simp[hu,goInt]
end
section
variable {P:Program} {w0:World} {gs:List Nat} {K:List (Nat × Value)} {L:List Ent}
def sc (P:Program) (w0:World) (gs:List Nat) (K:List (Nat × Value)) (L:List Ent) (op:Op) (ty:TypeId) (v:Nat→Value) (t:TypeId) (cs:LV):Prop :=
 ∀ a w,Kn K a→Mr w0 gs L w→∀ o:Oper,o.op=op→o.type=ty→(execOp a.eval o).run P w=.ok (.value (v w.heap.size)) (w.alloc (.cells cs.toArray t))
def jm (P:Program) (w0:World) (gs:List Nat) (K:List (Nat × Value)) (L:List Ent) (op:Op) (ty:TypeId) (L' : List Ent):Prop :=
 ∀ a w,Kn K a→Me w0 gs L w→∀ o:Oper,o.op=op→o.type=ty→∃ w',(execOp a.eval o).run P w=.ok .skip w'∧Me w0 gs L' w'
def cellsOf:Value→List Value
 | .agg cs=>cs.toList
 | v=>[v]
theorem vJ (v:Value):v.cells=(cellsOf v).toArray:=by cases v<;>simp[Value.cells,cellsOf]
theorem kw {t ty:TypeId} {z:Value} {zs:LV} [ZeT P t z] (hz:cellsOf z=zs) :
  sc P w0 gs K L (.alloc t) ty (fun g=>.pointer (some ⟨g,0,none⟩)) t zs:=by
 intro a w hk _ o ho _;subst hz;simp only[execOp,ho,Instr.alloc,Sem.run_bind,ZeT.zero (P:=P) (t:=t),Result.andThen_ok,newVar,newRow,run_newObj,Sem.run_pure,vJ];rfl
theorem bQ {t ty:TypeId} {x:Operand} {v:Value} {cs:LV} (hx:ev K x=some v) (hc:cellsOf v=cs) :
  sc P w0 gs K L (.box t x) ty (fun g=>.pointer (some ⟨g,0,none⟩)) t cs:=by
 intro a w hk _ o ho _;subst hc;simp only[execOp,ho,hk.eval hx,Instr.box,Sem.run_bind,newVar,newRow,run_newObj,Result.andThen_ok,Sem.run_pure,vJ];rfl
def over (cs:LV) (off:Nat) (vs:LV):List Value:=cs.take off++vs++cs.drop (off+vs.length)
theorem vq {t:TypeId} (g:Nat):∀ (vs:LV) (off i:Nat) (cs:LV) (w:World),off+i+vs.length≤cs.length→(∀ v∈vs,v.oneCell'=true)→w.heap[g]?=some (.cells cs.toArray t (0,0)) →
  ∃ w',(storeCells ⟨g,off,none⟩ vs i).run P w=.ok () w'∧w'.os=w.os∧w'.tape=w.tape∧w'.output=w.output∧w'.heap.size=w.heap.size∧(∀ k,k≠g→w'.heap[k]?=w.heap[k]?) ∧
   w'.heap[g]?=some (.cells (over cs (off+i) vs).toArray t (0,0))
 | [],off,i,cs,w,hl,_,hg=>⟨w,rfl,rfl,rfl,rfl,rfl,fun _ _=>rfl,by
   have:over cs (off+i) []=cs:=by simp[over]
   rw[this];exact hg⟩
 | v::r,off,i,cs,w,hl,hv,hg=>by
  simp only[List.length_cons] at hl;have hcell:w.cell? ⟨g,off+i,none⟩=some cs[off+i]:=by
   rw[cell_of_row w g (off+i) cs.toArray t (0,0) hg];simp
  have hfr:w.frozen? ⟨g,off+i,none⟩=false:=frozen_of_row w g (off+i) cs.toArray t hg;have hst:(store ((⟨g,off,none⟩ : Addr).add i) v).run P w=.ok () (w.setCell ⟨g,off+i,none⟩ v):=by
   rw[vM,run_store P w _ v .plain (hv v Sm),hcell,hfr];rfl
  have hg' : (w.setCell ⟨g,off+i,none⟩ v).heap[g]?=some (.cells (cs.set (off+i) v).toArray t (0,0)):=by
   have:=heap_setCell_same w g (off+i) cs.toArray t v hg;rw[this];simp
  obtain⟨w',h1,h2,h3,h4,h5,h6,h7⟩:=vq g r off (i+1) (cs.set (off+i) v) (w.setCell ⟨g,off+i,none⟩ v) (by simp;omega) (fun u hu=>hv u (by simp[hu])) hg';refine⟨w',?_,h2,h3,h4,h5.trans Sm,fun k hk=>(h6 k hk).trans (heap_setCell_other w _ k v hk),?_⟩
  ·unfold storeCells;rw[Sem.run_bind,hst];exact h1
  ·rw[h7];congr 2;apply congrArg;unfold over;rw[show off+(i+1)=off+i+1 by omega];simp only[List.length_cons];have hlt:off+i<cs.length:=by omega
   have h1:(cs.set (off+i) v).take (off+i+1)=cs.take (off+i)++[v]:=by
    rw[List.take_succ_eq_append_getElem (by simpa using hlt)];simp[List.take_set_of_le]
   have h2:(cs.set (off+i) v).drop (off+i+1+r.length)=cs.drop (off+i+(r.length+1)):=by
    rw[List.drop_set_of_lt Om,show off+i+1+r.length=off+i+(r.length+1) by omega]
   rw[h1,h2];simp
end
class SzT (P:Program) (t:TypeId) (n:outParam Nat):Prop where
 size:∀ w,(sizeOf t).run P w=.ok n w
instance {P:Program} {t n:Nat} [h:AgT P t n]:SzT P t n:=⟨h.size⟩
instance {P:Program} {t:Nat} [h:OnT P t]:SzT P t 1:=⟨h.size⟩
section
variable {P:Program} {w0:World} {gs:List Nat} {K:List (Nat × Value)} {L:List Ent}
theorem iT {t n g off t' : Nat} {x y:Operand} {ty:TypeId} {v:Value} {vs cs cs' : List Value} {L' : List Ent} [SzT P t n] (hx:ev K x=some (.pointer (some ⟨g,off,none⟩)))
  (hy:ev K y=some v) (hv:cellsOf v=vs) (hl:vs.length=n) (h1:vs.all Value.oneCell'=true) (hr:Rp L g t' cs cs' L') (hc:over cs off vs=cs') (hle:off+vs.length≤cs.length) (ht:t'≠0) :
  jm P w0 gs K L (.store t x y) ty L':=by
 intro a w hk hme o ho _;subst hc;subst hv;have hok:=(hme.ok _ hr.mem).row ht;obtain⟨w',h1,h2,h3,h4,h5,h6,h7⟩:=vq (P:=P) (t:=t') g (cellsOf v) off 0 cs w Om (fun u hu=>List.all_eq_true.1 h1 u hu) hok;refine⟨w',?_,hme.write hr h2 h3 h4 Om (fun k _ hk=>h6 k hk) h7⟩;have hsz:v.cells.size=n:=by rw[vJ];simpa using hl
 simp only[execOp,ho,hk.eval hx,hk.eval hy,Instr.storeAt,Instr.sureAddr,storeVar,Sem.run_bind,Sem.run_pure,Result.andThen_ok,SzT.size (P:=P) (t:=t)];rw[if_neg (by simp[hsz]),vJ];simp only[h1,Result.andThen_ok,Sem.run_pure]
end
def nth {α:Type}:List α→Nat→Option α
 | [],_=>none
 | x::_,0=>some x
 | _::r,i+1=>nth r i
theorem um {α:Type}:∀ (l:List α) (i:Nat),nth l i=l[i]?
 | [],i=>by simp[nth]
 | x::r,0=>rfl
 | x::r,i+1=>by simp[nth,um r i]
def wk (ops:List Oper) (K:List (Nat × Value)):Option (Nat × Bool)→Option Bool
 | none=>some true
 | some (j,b)=>match nth ops j with
  | some o=>match o.dst with
   | some t=>match lk K t with
    | some (.bool c)=>some (c == b)
    | _=>none
   | none=>none
  | none=>none
theorem yG {ops:List Oper} {K:List (Nat × Value)} {a:Act} {o:Oper} {b:Bool} (hk:Kn K a) (h:wk ops K o.guard=some b):Region.wanted o (yielded ops.toArray a.tmps)=b:=by
 unfold wk at h;unfold Region.wanted;cases hg:o.guard with
 | none=>rw[hg] at h;cases h;rfl
 | some p =>
  obtain⟨j,want⟩:=p;rw[hg] at h;simp only at h ⊢;rw[um] at h;cases ho:ops[j]? with
  | none=>rw[ho] at h;cases h
  | some o' =>
   rw[ho] at h;simp only at h;cases ht:o'.dst with
   | none=>rw[ht] at h;cases h
   | some t =>
    rw[ht] at h;simp only at h;cases hl:lk K t with
    | none=>rw[hl] at h;cases h
    | some v =>
     rw[hl] at h;have hat:=hk t v hl;cases v<;>simp only[reduceCtorEq] at h;rename_i c;cases h;have:yielded ops.toArray a.tmps j=some c:=by
      unfold yielded;simp[ho,ht,hat]
     rw[this];cases c<;>cases want<;>rfl
section
variable (P:Program) (w0:World) (gs:List Nat) (n:Nat)
def WO (ops:List Oper) (Q:Exit→Act→World→Prop) (K:List (Nat × Value)) (L:List Ent) (rest:List Oper):Prop :=
 ∀ a w,a.defers=[]→a.tmps.size=n→Kn K a→Me w0 gs L w→wpList P ops.toArray Q rest a w
def WC (c:Code) (Q:Exit→Act→World→Prop) (K:List (Nat × Value)) (L:List Ent):Prop :=
 ∀ a w,a.defers=[]→a.tmps.size=n→Kn K a→Me w0 gs L w→c.wp P Q a w
def WX (e:Exit) (Q:Exit→Act→World→Prop) (K:List (Nat × Value)) (L:List Ent):Prop :=
 ∀ a w,a.defers=[]→a.tmps.size=n→Kn K a→Me w0 gs L w→Q e a w
end
def ui (w:World) (post:Value→List Ent→Prop):Ending→World→Prop :=
 fun e w'=>∃ v N,e=.returned v∧Below w.heap.size w w'∧fF w.heap.size N w'∧post v N
def Fn (P:Program) (f:FuncId) (args:LV) (R:World→Prop) (post:Value→List Ent→Prop):Prop :=
 ∀ w,R w→Calls P f args.toArray w (ui w post)
def Is (v:Value):Value→List Ent→Prop:=fun u _=>u=v
def Tr:World→Prop:=fun _=>True
theorem Fn.weak {P:Program} {f:FuncId} {args:LV} {R R' : World→Prop} {post post' : Value→List Ent→Prop} (h:Fn P f args R post) (hR:∀ w,R' w→R w) (hp:∀ v N,post v N→post' v N):Fn P f args R' post' :=
 fun w hw=>(h w (hR w hw)).mono fun _ _ ⟨v,N,h1,h2,h3,h4⟩=>⟨v,N,h1,h2,h3,hp v N h4⟩
section
variable {P:Program} {w0:World} {gs:List Nat} {n:Nat} {ops:List Oper} {Q:Exit→Act→World→Prop} {K:List (Nat × Value)} {L:List Ent} {rest:List Oper}
variable {d:Nat} {op:Op} {ty:TypeId} {pos:String} {after:Array Edge} {gd:Option (Nat × Bool)}
theorem abn {a:Act} {w w' : World} {v:Value} {L' : List Ent} (hd:d<n) (hw:wk ops K gd=some true) (hdf:a.defers=[]) (hsz:a.tmps.size=n) (hk:Kn K a)
  (h1:(execOp a.eval ⟨some d,op,ty,pos,after,gd⟩).run P w=.ok (.value v) w') (h2:Me w0 gs L' w') (k:WO P w0 gs n ops Q ((d,v)::K) L' rest) :
  wpList P ops.toArray Q (⟨some d,op,ty,pos,after,gd⟩::rest) a w:=by
 refine wpList_step fun F hF=>?_;rw[if_pos (yG (o:=⟨some d,op,ty,pos,after,gd⟩) hk hw)];unfold Oper.wp;rw[h1];exact hF _ _ (k _ _ (by rw[put_defers];exact hdf) (by rw[ym];exact hsz) (hk.put Om v) h2)
theorem agI {a:Act} {w w' : World} {L' : List Ent} (hw:wk ops K gd=some true) (hdf:a.defers=[]) (hsz:a.tmps.size=n) (hk:Kn K a)
  (h1:(execOp a.eval ⟨none,op,ty,pos,after,gd⟩).run P w=.ok .skip w'∨∃ v,(execOp a.eval ⟨none,op,ty,pos,after,gd⟩).run P w=.ok (.value v) w') (h2:Me w0 gs L' w') (k:WO P w0 gs n ops Q K L' rest) :
  wpList P ops.toArray Q (⟨none,op,ty,pos,after,gd⟩::rest) a w:=by
 refine wpList_step fun F hF=>?_;rw[if_pos (yG (o:=⟨none,op,ty,pos,after,gd⟩) hk hw)];unfold Oper.wp
 rcases h1 with h1|⟨v,h1⟩
 ·rw[h1];exact hF _ _ (k _ _ hdf hsz hk h2)
 ·rw[h1];exact hF _ _ (k _ _ hdf hsz hk h2)
theorem WO.does {v:Value} (h:Does P w0 gs K L op ty v) (k:WO P w0 gs n ops Q ((d,v)::K) L rest) (hd:Nat.blt d n=true:=by rfl) (hw:wk ops K gd=some true:=by rfl) :
  WO P w0 gs n ops Q K L (⟨some d,op,ty,pos,after,gd⟩::rest) :=
 fun a w hdf hsz hk hme=>abn (by simpa [Nat.blt_eq] using hd) hw hdf hsz hk (h a w hk hme.mr _ rfl rfl) hme k
theorem WO.skip (k:WO P w0 gs n ops Q ((d,undef)::K) L rest) (hd:Nat.blt d n=true:=by rfl) (hw:wk ops K gd=some false:=by rfl) :
  WO P w0 gs n ops Q K L (⟨some d,op,ty,pos,after,gd⟩::rest):=by
 intro a w hdf hsz hk hme;refine wpList_step fun F hF=>?_;rw[if_neg (by rw[yG (o:=⟨some d,op,ty,pos,after,gd⟩) hk hw];simp)];have hd' : d<n:=by simpa [Nat.blt_eq] using hd
 exact hF _ _ (k _ _ (by rw[put_defers];exact hdf) (by rw[ym];exact hsz) (hk.put Om undef) hme)
theorem WO.makes {v:Nat→Value} {t:TypeId} {cs:LV} (h:sc P w0 gs K L op ty v t cs) (k:∀ g,WO P w0 gs n ops Q ((d,v g)::K) (⟨g,t,cs⟩::L) rest) (hd:Nat.blt d n=true:=by rfl) (hw:wk ops K gd=some true:=by rfl) :
  WO P w0 gs n ops Q K L (⟨some d,op,ty,pos,after,gd⟩::rest) :=
 fun a w hdf hsz hk hme=>abn (by simpa [Nat.blt_eq] using hd) hw hdf hsz hk (h a w hk hme.mr _ rfl rfl) (hme.alloc t cs) (k _)
theorem WO.stores {L' : List Ent} (h:jm P w0 gs K L op ty L') (k:WO P w0 gs n ops Q K L' rest) (hw:wk ops K gd=some true:=by rfl) :
  WO P w0 gs n ops Q K L (⟨none,op,ty,pos,after,gd⟩::rest):=fun a w hdf hsz hk hme =>
 let ⟨_,h1,h2⟩:=h a w hk hme ⟨none,op,ty,pos,after,gd⟩ rfl rfl
 agI hw hdf hsz hk (.inl h1) h2 k
theorem vp {f:FuncId} [Cal P f] {x:Operand} {xs:Array Operand} {ats:Array TypeId} {ak fs cs:LV} {a:Act} {w:World} {dst:Option Tmp} (hk:Kn K a) (hx:ev K x=some (.func (.func f) fs.toArray cs.toArray))
  (ha:evs K xs.toList=some ak):(execOp a.eval ⟨dst,.call { callee:=.value x,args:=xs,argTypes:=ats },ty,pos,after,gd⟩).run P w=.ok (.enter f (fs++ak++cs).toArray) w:=by
 have e1:xs.map a.eval=ak.toArray:=by have h:=hk.evals ha;apply Array.ext';simpa using h
 simp only[execOp,resolve,e1,hk.eval hx,Deferred.ofValue,Sem.run_bind,Sem.run_pure,Result.andThen_ok,invoke,Cal.run];simp
theorem WO.calls {f:FuncId} [Cal P f] {x:Operand} {xs:Array Operand} {ats:Array TypeId} {ak fs cs ak' : List Value} {R:World→Prop} {post:Value→List Ent→Prop} (hc:Fn P f ak' R post) (hx:ev K x=some (.func (.func f) fs.toArray cs.toArray))
  (ha:evs K xs.toList=some ak) (hh:fs++ak++cs=ak') (hR:∀ w,Mr w0 gs L w→R w) (k:∀ v N,post v N→WO P w0 gs n ops Q ((d,v)::K) (N++L) rest)
  (hd:Nat.blt d n=true:=by rfl) (hw:wk ops K gd=some true:=by rfl) :
  WO P w0 gs n ops Q K L (⟨some d,.call { callee:=.value x,args:=xs,argTypes:=ats },ty,pos,after,gd⟩::rest):=by
 intro a w hdf hsz hk hme;refine wpList_step fun F hF=>?_;rw[if_pos (yG (o:=⟨some d,.call { callee:=.value x,args:=xs,argTypes:=ats },ty,pos,after,gd⟩) hk hw)];have hd' : d<n:=by simpa [Nat.blt_eq] using hd
 unfold Oper.wp;subst hh;rw[vp hk hx ha,Oper.upon_enter];refine (hc w (hR w hme.mr)).mono ?_;rintro e w' ⟨v,N,rfl,hb,hn,hp⟩;exact hF _ _ (k v N hp _ _ (by rw[put_defers];exact hdf) (by rw[ym];exact hsz) (hk.put Om v) (hme.add hb hn))
theorem WO.call {f:FuncId} [Cal P f] {xs:Array Operand} {ats:Array TypeId} {ak:LV} {R:World→Prop} {v:Value} (hc:Fn P f ak R (Is v))
  (ha:evs K xs.toList=some ak) (hR:∀ w,Mr w0 gs L w→R w) (k:WO P w0 gs n ops Q ((d,v)::K) L rest)
  (hd:Nat.blt d n=true:=by rfl) (hw:wk ops K gd=some true:=by rfl) :
  WO P w0 gs n ops Q K L (⟨some d,.call { callee:=.value (.func f),args:=xs,argTypes:=ats },ty,pos,after,gd⟩::rest) :=
 WO.calls (fs:=[]) (cs:=[]) hc rfl ha Sm hR (fun u N hu=>by
  cases hu;exact fun a w hdf hsz hk hme=>k a w hdf hsz hk (hme.sub (List.sublist_append_right _ _))) hd hw
def fj (P:Program) (w0:World) (gs:List Nat) (K:List (Nat × Value)) (L:List Ent) (op:Op) (ty:TypeId) (vf:(Nat→Nat)→Value) (Nf:(Nat→Nat)→List Ent) (S:(Nat→Nat)→Prop):Prop :=
 ∀ a w,Kn K a→Mr w0 gs L w→∀ o:Oper,o.op=op→o.type=ty→∃ x w',(execOp a.eval o).run P w=.ok (.value (vf x)) w'∧S x∧Below w.heap.size w w'∧fF w.heap.size (Nf x) w'
theorem WO.news {vf:(Nat→Nat)→Value} {Nf:(Nat→Nat)→List Ent} {S:(Nat→Nat)→Prop} (h:fj P w0 gs K L op ty vf Nf S) (k:∀ x,S x→WO P w0 gs n ops Q ((d,vf x)::K) (Nf x++L) rest) (hd:Nat.blt d n=true:=by rfl) (hw:wk ops K gd=some true:=by rfl) :
  WO P w0 gs n ops Q K L (⟨some d,op,ty,pos,after,gd⟩::rest):=fun a w hdf hsz hk hme =>
 let ⟨x,_,h1,h2,h3,h4⟩:=h a w hk hme.mr _ rfl rfl
 abn (by simpa [Nat.blt_eq] using hd) hw hdf hsz hk h1 (hme.add h3 h4) (k x h2)
def Ex (vf:(Nat→Nat)→Value) (Nf:(Nat→Nat)→List Ent) (S:(Nat→Nat)→Prop):Value→List Ent→Prop:=fun v N=>∃ x,v=vf x∧N=Nf x∧S x
theorem WC.skip (k:WX w0 gs n .normal Q K L):WC P w0 gs n .skip Q K L:=fun a w h1 h2 h3 h4=>wp_skip (k a w h1 h2 h3 h4)
theorem WC.label {l:Nat} (k:WX w0 gs n .normal Q K L):WC P w0 gs n (.label l) Q K L:=fun a w h1 h2 h3 h4=>wp_label (k a w h1 h2 h3 h4)
theorem WC.exit {id:Nat} (k:WX w0 gs n (.exit id) Q K L):WC P w0 gs n (.exit id) Q K L:=fun a w h1 h2 h3 h4=>wp_exit (k a w h1 h2 h3 h4)
theorem WC.ret (k:WX w0 gs n .ret Q K L):WC P w0 gs n .ret Q K L:=fun a w h1 h2 h3 h4=>wp_ret (k a w h1 h2 h3 h4)
theorem WC.seq {x y:Code} (k:WC P w0 gs n x (Exit.then (y.wp P Q) Q) K L):WC P w0 gs n (.seq x y) Q K L:=fun a w h1 h2 h3 h4=>wp_seq (k a w h1 h2 h3 h4)
theorem WC.block {id:Nat} {c:Code} (k:WC P w0 gs n c (Exit.inBlock id Q) K L):WC P w0 gs n (.block id c) Q K L:=fun a w h1 h2 h3 h4=>wp_block (k a w h1 h2 h3 h4)
theorem WC.scope {c:Code} (k:WC P w0 gs n c (Exit.noGoto Q) K L):WC P w0 gs n (.scope c) Q K L:=fun a w h1 h2 h3 h4=>wp_scope_straight (k a w h1 h2 h3 h4)
theorem WC.region {id:Nat} {l:List Oper} (k:WO P w0 gs n l Q K L l):WC P w0 gs n (.region id l.toArray false) Q K L:=fun a w h1 h2 h3 h4=>wp_region_lit (k a w h1 h2 h3 h4)
theorem WC.condT {c:Operand} {x y:Code} (hc:ev K c=some (.bool true)) (k:WC P w0 gs n x Q K L):WC P w0 gs n (.cond c x y) Q K L:=fun a w h1 h2 h3 h4=>wp_cond_true (h3.eval hc) (k a w h1 h2 h3 h4)
theorem WC.condF {c:Operand} {x y:Code} (hc:ev K c=some (.bool false)) (k:WC P w0 gs n y Q K L):WC P w0 gs n (.cond c x y) Q K L:=fun a w h1 h2 h3 h4=>wp_cond_false (h3.eval hc) (k a w h1 h2 h3 h4)
theorem WO.nil (k:WX w0 gs n .normal Q K L):WO P w0 gs n ops Q K L []:=fun a w h1 h2 h3 h4=>k a w h1 h2 h3 h4
theorem WX.seq {y:Code} {Q' : Exit→Act→World→Prop} (k:WC P w0 gs n y Q K L):WX w0 gs n .normal (Exit.then (y.wp P Q) Q') K L:=k
theorem WX.then_ret {F:Act→World→Prop} (k:WX w0 gs n .ret Q K L):WX w0 gs n .ret (Exit.then F Q) K L:=k
theorem WX.then_exit {F:Act→World→Prop} {id:Nat} (k:WX w0 gs n (.exit id) Q K L):WX w0 gs n (.exit id) (Exit.then F Q) K L:=k
theorem WX.blk_normal {id:Nat} (k:WX w0 gs n .normal Q K L):WX w0 gs n .normal (Exit.inBlock id Q) K L:=k
theorem WX.blk_ret {id:Nat} (k:WX w0 gs n .ret Q K L):WX w0 gs n .ret (Exit.inBlock id Q) K L:=k
theorem WX.blk_exit {id:Nat} (k:WX w0 gs n .normal Q K L):WX w0 gs n (.exit id) (Exit.inBlock id Q) K L:=fun a w h1 h2 h3 h4=>by
 show (if id=id then Q .normal a w else Q (.exit id) a w);rw[if_pos rfl];exact k a w h1 h2 h3 h4
theorem WX.blk_pass {id id' : Nat} (hne:Nat.beq id' id=false) (k:WX w0 gs n (.exit id') Q K L):WX w0 gs n (.exit id') (Exit.inBlock id Q) K L:=fun a w h1 h2 h3 h4=>by
 show (if id'=id then Q .normal a w else Q (.exit id') a w);rw[if_neg (fun h=>by subst h;rw[Nat.beq_refl] at hne;cases hne)];exact k a w h1 h2 h3 h4
theorem WX.scp_normal (k:WX w0 gs n .normal Q K L):WX w0 gs n .normal (Exit.noGoto Q) K L:=k
theorem WX.scp_ret (k:WX w0 gs n .ret Q K L):WX w0 gs n .ret (Exit.noGoto Q) K L:=k
theorem WX.scp_exit {id:Nat} (k:WX w0 gs n (.exit id) Q K L):WX w0 gs n (.exit id) (Exit.noGoto Q) K L:=k
def Kle:List (Nat × Value)→List (Nat × Value)→Prop
 | [],_=>True
 | (t,v)::r,K=>(∃ u,lk K t=some u∧u=v)∧Kle r K
theorem Kle.kn {K:List (Nat × Value)} {a:Act} (hk:Kn K a):∀ {K' : List (Nat × Value)},Kle K' K→Kn K' a
 | [],_,t,v,h=>by cases h
 | (t',v')::r,⟨⟨u,h1,h2⟩,hr⟩,t,v,h=>by
  unfold lk at h;cases hb:Nat.beq t' t with
  | true =>
   rw[hb] at h;have:t'=t:=Nat.eq_of_beq_eq_true hb;subst this;cases h;exact hk _ _ (h2 ▸ h1)
  | false =>
   rw[hb] at h;exact Kle.kn hk hr t v h
inductive PkK (k:Kd):List Ent→Nat→TypeId→List Value→List Ent→Prop
 | here {L:List Ent} {g:Nat} {t:TypeId} {cs:LV}:PkK k (@Ent.mk g t cs k::L) g t cs L
 | there {L L' : List Ent} {g:Nat} {t:TypeId} {cs:LV} {e:Ent}:PkK k L g t cs L'→PkK k (e::L) g t cs (e::L')
abbrev Pk:List Ent→Nat→TypeId→List Value→List Ent→Prop:=PkK cellsK
theorem Pk.here {k:Kd} {L:List Ent} {g:Nat} {t:TypeId} {cs:LV}:PkK k (@Ent.mk g t cs k::L) g t cs L:=.here
theorem Pk.there {k:Kd} {L L' : List Ent} {g:Nat} {t:TypeId} {cs:LV} {e:Ent} (h:PkK k L g t cs L'):PkK k (e::L) g t cs (e::L'):=.there h
theorem PkK.perm {k:Kd} {L L' : List Ent} {g:Nat} {t:TypeId} {cs:LV} (h:PkK k L g t cs L'):L.Perm (@Ent.mk g t cs k::L'):=by
 induction h with
 | here=>exact .refl _
 | there _ ih=>exact (ih.cons _).trans (.swap ..)
theorem Pk.a {k:Kd} {L L':List Ent} {g:Nat} {t:TypeId} {cs:LV} (h:PkK k L g t cs L':=by repeat (first|exact Pk.here|apply Pk.there)):PkK k L g t cs L':=h
theorem Pk.perm {L L' : List Ent} {g:Nat} {t:TypeId} {cs:LV} (h:Pk L g t cs L'):L.Perm (⟨g,t,cs⟩::L'):=PkK.perm h
def Lle:List Ent→List Ent→Prop
 | [],_=>True
 | e::r,L=>∃ cs L',PkK e.k L e.g e.t cs L'∧cs=e.cs∧Lle r L'
theorem Me.perm {L L' : List Ent} {w:World} (h:Me w0 gs L w) (hp:L.Perm L'):Me w0 gs L' w :=
 ⟨h.mod,fun e he=>h.ok e (hp.mem_iff.2 he),fun e he=>h.mine e (hp.mem_iff.2 he),(hp.map _).nodup_iff.1 h.nodup⟩
theorem Lle.perm:∀ {L' L:List Ent},Lle L' L→∃ R,L.Perm (L'++R)
 | [],L,_=>⟨L,.refl _⟩
 | @Ent.mk g t cs' k::r,L,⟨cs,L1,h1,h2,h3⟩=>by
  simp only at h1 h2;subst h2;obtain⟨R,hR⟩:=Lle.perm h3;exact⟨R,h1.perm.trans (hR.cons _)⟩
theorem Lle.me {L' : List Ent} {w:World} (hl:Lle L' L) (h:Me w0 gs L w):Me w0 gs L' w :=
 let ⟨_,hp⟩:=hl.perm
 (h.perm hp).sub (List.sublist_append_left _ _)
def Met {σ:Type} (w0:World) (gs:List Nat) (n:Nat) (Ks:σ→List (Nat × Value)) (Ls:σ→List Ent) (ok:σ→Prop) (a:Act) (w:World):Prop :=
 ∃ s,ok s∧a.defers=[]∧a.tmps.size=n∧Kn (Ks s) a∧Me w0 gs (Ls s) w
theorem WX.met {σ:Type} {Ks:σ→List (Nat × Value)} {Ls:σ→List Ent} {ok:σ→Prop} (s:σ) (hs:ok s) (hk:Kle (Ks s) K) (hl:Lle (Ls s) L):WX w0 gs n .normal (Exit.then (Met w0 gs n Ks Ls ok) Q) K L :=
 fun _ _ h1 h2 h3 h4=>⟨s,hs,h1,h2,hk.kn h3,hl.me h4⟩
def kin:List Value→Nat→List (Nat × Value)
 | [],_=>[]
 | v::r,i=>(i,v)::kin r (i+1)
theorem v7:∀ (vs:LV) (i t:Nat) (v:Value),lk (kin vs i) t=some v→∃ j,t=i+j∧vs[j]?=some v
 | [],_,_,_,h=>by cases h
 | u::r,i,t,v,h=>by
  unfold kin lk at h;cases hb:Nat.beq i t with
  | true =>
   rw[hb] at h;cases h;exact⟨0,(Nat.eq_of_beq_eq_true hb).symm,rfl⟩
  | false =>
   rw[hb] at h;obtain⟨j,h1,h2⟩:=v7 r (i+1) t v h;exact⟨j+1,by omega,by simpa using h2⟩
theorem Fn.enter {f:FuncId} {fn:Func} {c:Code} {args:LV} {R:World→Prop} {post:Value→List Ent→Prop} (hf:P.funcs[f]?=some fn) (hb:fn.body=some c) (hn:fn.ntmps=n) (hle:Nat.ble args.length n=true)
  (k:∀ w,R w→WC P w [] n c (bodyPost P fn (ui w post)) (kin args 0) []):Fn P f args R post:=by
 intro w hw;refine calls_of_wp hf hb ?_;have hle' : args.length≤n:=by simpa using hle
 refine k w hw _ w rfl (by simp[hn];omega) (fun t v hv=>?_) (Me.refl w []);obtain⟨j,h1,h2⟩:=v7 args 0 t v hv;subst h1;have hj:j<args.length:=by
  rcases Nat.lt_or_ge j args.length with h|h
  ·exact h
  ·rw[List.getElem?_eq_none h] at h2;cases h2
 simp only[Nat.zero_add];rw[Array.getElem?_append_left (by simpa using hj)];simpa using h2
def rvS (tmps:Array Value):ResultVar→Sem Value
 | .tmp t=>pure (tmps.getD t undef)
 | .cell p t=>do loadVar t (← asAddr (tmps.getD p undef))
def Rv (P:Program) (w0:World) (gs:List Nat) (K:List (Nat × Value)) (L:List Ent) (r:ResultVar) (v:Value):Prop :=
 ∀ a w,Kn K a→Me w0 gs L w→(rvS a.tmps r).run P w=.ok v w
theorem zK {t:Nat} {v:Value} (h:lk K t=some v):Rv P w0 gs K L (.tmp t) v:=by
 intro a w hk _;have:=hk.eval (x:=.tmp t) h;simp only[Act.eval] at this;simp only[rvS,this,Sem.run_pure]
theorem yd {p t g off t' n:Nat} {cs vs:LV} [AgT P t n] (hx:lk K p=some (.pointer (some ⟨g,off,none⟩))) (hm:Hs L g t' cs) (hc:cut cs off n=vs) (hl:vs.length=n) :
  Rv P w0 gs K L (.cell p t) (.agg vs.toArray):=by
 intro a w hk hme;have:=hk.eval (x:=.tmp p) hx;simp only[Act.eval] at this;have hok:=hme.ok _ hm.mem;have h1:=vW (P:=P) (t:=t) w g off vs hl (fun j v hj=>by rw[hok.cell (off+j)];exact vg hc hj);simp only[rvS,this,asAddr,Sem.run_bind,Sem.run_pure,Result.andThen_ok,h1]
theorem tF {p t g off t' : Nat} {cs:LV} {v:Value} [OnT P t] (hx:lk K p=some (.pointer (some ⟨g,off,none⟩))) (hm:Hs L g t' cs) (hc:cs[off]?=some v) :
  Rv P w0 gs K L (.cell p t) v:=by
 intro a w hk hme;have:=hk.eval (x:=.tmp p) hx;simp only[Act.eval] at this;have hok:=hme.ok _ hm.mem;have h1:=vY (P:=P) (t:=t) w g off v (by rw[hok.cell off];exact hc);simp only[rvS,this,asAddr,Sem.run_bind,Sem.run_pure,Result.andThen_ok,h1]
theorem fF.of_me {w0 w:World} {N:List Ent} (h:Me w0 [] N w):fF w0.heap.size N w:=⟨h.ok,fun e he=>(h.mine e he).resolve_right Sm,h.nodup⟩
theorem WX.ret_of {fn:Func} {post:Value→List Ent→Prop} {v:Value} {N:List Ent} (hr:∀ a w,Kn K a→Me w0 [] L w→(results fn a.tmps).run P w=.ok v w) (hN:Lle N L) (hp:post v N) :
  WX w0 [] n .ret (bodyPost P fn (ui w0 post)) K L:=fun a w h1 _ h3 h4 =>
 ⟨h1,v,hr a w h3 h4,v,N,rfl,h4.mod.below,fF.of_me (hN.me h4),hp⟩
theorem yz (fn:Func) (tmps:Array Value):results fn tmps=(fn.results.mapM (rvS tmps) >>= fun vs=>pure (if h:vs.size=1 then vs[0] else .tuple vs)):=by
 have:rvS tmps=(fun x=>match x with
  | .tmp t=>pure (tmps.getD t undef)
  | .cell p t=>do loadVar t (← asAddr (tmps.getD p undef))):=by funext x;cases x<;>rfl
 rw[this];rfl
theorem adC {f:ResultVar→Sem Value} {r1:ResultVar} {v1:Value} {w:World} (h1:(f r1).run P w=.ok v1 w):(#[r1].mapM f).run P w=.ok #[v1] w:=by simp[h1]
theorem aO {f:ResultVar→Sem Value} {r1 r2:ResultVar} {v1 v2:Value} {w:World} (h1:(f r1).run P w=.ok v1 w) (h2:(f r2).run P w=.ok v2 w):(#[r1,r2].mapM f).run P w=.ok #[v1,v2] w:=by simp[h1,h2]
theorem ahJ {f:ResultVar→Sem Value} {r1 r2 r3:ResultVar} {v1 v2 v3:Value} {w:World} (h1:(f r1).run P w=.ok v1 w) (h2:(f r2).run P w=.ok v2 w) (h3:(f r3).run P w=.ok v3 w):(#[r1,r2,r3].mapM f).run P w=.ok #[v1,v2,v3] w:=by simp[h1,h2,h3]
theorem Rv.t {t:Nat} {v:Value} (h:lk K t=some v:=by rfl):Rv P w0 gs K L (.tmp t) v:=zK h
theorem WX.ret1 {fn:Func} {post:Value→List Ent→Prop} {v:Value} {r:ResultVar} (hfn:fn.results=#[r]) (hr:Rv P w0 [] K L r v) (N:List Ent) (hN:Lle N L) (hp:post v N) :
  WX w0 [] n .ret (bodyPost P fn (ui w0 post)) K L :=
 WX.ret_of (fun a w hk hme=>by
  have h:=adC (hr a w hk hme);rw[yz,hfn,Sem.run_bind,h];rfl) hN hp
theorem WX.ret2 {fn:Func} {post:Value→List Ent→Prop} {v1 v2:Value} {r1 r2:ResultVar} (hfn:fn.results=#[r1,r2]) (hr1:Rv P w0 [] K L r1 v1) (hr2:Rv P w0 [] K L r2 v2) (N:List Ent) (hN:Lle N L) (hp:post (.tuple #[v1,v2]) N) :
  WX w0 [] n .ret (bodyPost P fn (ui w0 post)) K L :=
 WX.ret_of (fun a w hk hme=>by
  have h:=aO (hr1 a w hk hme) (hr2 a w hk hme);rw[yz,hfn,Sem.run_bind,h];rfl) hN hp
theorem WX.ret3 {fn:Func} {post:Value→List Ent→Prop} {v1 v2 v3:Value} {r1 r2 r3:ResultVar} (hfn:fn.results=#[r1,r2,r3]) (hr1:Rv P w0 [] K L r1 v1) (hr2:Rv P w0 [] K L r2 v2) (hr3:Rv P w0 [] K L r3 v3) (N:List Ent) (hN:Lle N L) (hp:post (.tuple #[v1,v2,v3]) N) :
  WX w0 [] n .ret (bodyPost P fn (ui w0 post)) K L :=
 WX.ret_of (fun a w hk hme=>by
  have h:=ahJ (hr1 a w hk hme) (hr2 a w hk hme) (hr3 a w hk hme);rw[yz,hfn,Sem.run_bind,h];rfl) hN hp
end
end Sx
end
end Go.Proofs.YtiaibpcaloigkaaGreatDoor
namespace Go.Proofs.YtiaibpcaloigkaaGreatDoor
def wd (i n:Nat):Nat :=
 match i with
 | 0=>n%18446744073709551616
 | 1=>n / 18446744073709551616%18446744073709551616
 | 2=>n / 340282366920938463463374607431768211456%18446744073709551616
 | _=>n / 6277101735386680763835789423207666416102355444464034512896%18446744073709551616
def tk (a b c d:Nat):Nat :=
 a+18446744073709551616*b+340282366920938463463374607431768211456*c+6277101735386680763835789423207666416102355444464034512896*d
def ze:Nat:=115792089237316195423570985008687907853269984665640564039457584007913129639936
theorem ya (i n:Nat):wd i n<18446744073709551616:=by
 unfold wd;split<;>exact Nat.mod_lt _ Om
theorem ahu (i n:Nat):wd i n≤18446744073709551615:=by have:=ya i n;omega
theorem kM {a b c d:Nat} (ha:a<18446744073709551616) (hb:b<18446744073709551616) (hc:c<18446744073709551616) (hd:d<18446744073709551616) :
  wd 0 (tk a b c d)=a∧wd 1 (tk a b c d)=b∧wd 2 (tk a b c d)=c∧wd 3 (tk a b c d)=d:=by
 simp only[wd,tk];omega
theorem vN {n:Nat} (h:n<ze):tk (wd 0 n) (wd 1 n) (wd 2 n) (wd 3 n)=n:=by
 simp only[wd,tk,ze] at *;omega
theorem kh {a b c d:Nat} (ha:a<18446744073709551616) (hb:b<18446744073709551616) (hc:c<18446744073709551616) (hd:d<18446744073709551616) :
  tk a b c d<ze:=by simp only[tk,ze];omega
theorem acp {m n:Nat} (hm:m<ze) (hn:n<ze) (h0:wd 0 m=wd 0 n) (h1:wd 1 m=wd 1 n) (h2:wd 2 m=wd 2 n) (h3:wd 3 m=wd 3 n):m=n:=by
 rw[← vN hm,← vN hn,h0,h1,h2,h3]
abbrev zc (n:Nat):List Value:=[.int .u64 ((wd 0 n:Nat):Int),.int .u64 ((wd 1 n:Nat):Int),.int .u64 ((wd 2 n:Nat):Int),.int .u64 ((wd 3 n:Nat):Int)]
abbrev zk (n:Nat):Value:=.agg #[.int .u64 ((wd 0 n:Nat):Int),.int .u64 ((wd 1 n:Nat):Int),.int .u64 ((wd 2 n:Nat):Int),.int .u64 ((wd 3 n:Nat):Int)]
theorem oM {a b c d:Nat} (ha:a<18446744073709551616) (hb:b<18446744073709551616) (hc:c<18446744073709551616) (hd:d<18446744073709551616) :
  Value.agg #[.int .u64 (a:Int),.int .u64 (b:Int),.int .u64 (c:Int),.int .u64 (d:Int)]=zk (tk a b c d):=by
 obtain⟨e0,e1,e2,e3⟩:=kM ha hb hc hd;simp only[zk,e0,e1,e2,e3]
theorem cF (a b:Nat) (ha:a<ze) (hb:b<ze) (s0 s1 s2 s3 c0 c1 c2 c3:Nat)
  (e0:s0=(wd 0 a+wd 0 b)%18446744073709551616) (f0:c0=(wd 0 a+wd 0 b) / 18446744073709551616)
  (e1:s1=(wd 1 a+wd 1 b+c0)%18446744073709551616) (f1:c1=(wd 1 a+wd 1 b+c0) / 18446744073709551616)
  (e2:s2=(wd 2 a+wd 2 b+c1)%18446744073709551616) (f2:c2=(wd 2 a+wd 2 b+c1) / 18446744073709551616)
  (e3:s3=(wd 3 a+wd 3 b+c2)%18446744073709551616) (f3:c3=(wd 3 a+wd 3 b+c2) / 18446744073709551616) :
  tk s0 s1 s2 s3=(a+b)%ze∧c3=(a+b) / ze:=by
 have h1:=vN ha;have h2:=vN hb;have:=ya 0 a;have:=ya 1 a;have:=ya 2 a;have:=ya 3 a;have:=ya 0 b;have:=ya 1 b;have:=ya 2 b;have:=ya 3 b;generalize wd 0 a=a0 at *;generalize wd 1 a=a1 at *;generalize wd 2 a=a2 at *;generalize wd 3 a=a3 at *;generalize wd 0 b=b0 at *;generalize wd 1 b=b1 at *;generalize wd 2 b=b2 at *;generalize wd 3 b=b3 at *;simp only[tk,ze] at *;omega
end Go.Proofs.YtiaibpcaloigkaaGreatDoor
namespace Go.Proofs
open Go.Shelf
def Tryz.lays134_ren:Go.Shelf.Ren:=⟨fun|134=>221|129=>181|n=>n,fun|53=>22|3=>3|4=>4|46=>233|5=>5|9=>9|n=>n,fun|n=>n⟩
theorem Tryz.lays134:Go.Proofs.Lays.n134 Tryz.prog Tryz.lays134_ren:={
 mixed:=by kernel_rfl
 f129:=Tryz.func181.trans (congrArg some (by kernel_rfl))
 f134:=Tryz.func221.trans (congrArg some (by kernel_rfl))
 t3:=Tryz.underlying3
 a3:=Tryz.isAgg3
 z3:=Tryz.sizeOf3
 v3:=Tryz.zeroValue3
 t4:=Tryz.underlying4
 a4:=Tryz.isAgg4
 z4:=Tryz.sizeOf4
 v4:=Tryz.zeroValue4
 t5:=Tryz.underlying5
 a5:=Tryz.isAgg5
 z5:=Tryz.sizeOf5
 v5:=Tryz.zeroValue5
 t9:=Tryz.underlying9
 a9:=Tryz.isAgg9
 z9:=Tryz.sizeOf9
 v9:=Tryz.zeroValue9
 t46:=Tryz.underlying233
 a46:=Tryz.isAgg233
 z46:=Tryz.sizeOf233
 v46:=Tryz.zeroValue233
 t53:=Tryz.underlying22
 a53:=Tryz.isAgg22
 z53:=Tryz.sizeOf22
 v53:=Tryz.zeroValue22 }
theorem Tryz.bits_LeadingZeros64 (x:Int) (w:World) (h0:0≤x) (h1:x≤18446744073709551615) :
  Calls Tryz.prog 221 #[.int .u64 x] w fun e w'=>e=.returned (.int .i64 (64 - (Lib.bitLen x.toNat:Int)))∧w'=w:=Any.bits_LeadingZeros64 Tryz.lays134 x w h0 h1
def Tryz.lays129_ren:Go.Shelf.Ren:=⟨fun|129=>181|n=>n,fun|53=>22|3=>3|4=>4|46=>233|5=>5|9=>9|n=>n,fun|n=>n⟩
theorem Tryz.lays129:Go.Proofs.Lays.n129 Tryz.prog Tryz.lays129_ren:={
 mixed:=by kernel_rfl
 f129:=Tryz.func181.trans (congrArg some (by kernel_rfl))
 t3:=Tryz.underlying3
 a3:=Tryz.isAgg3
 z3:=Tryz.sizeOf3
 v3:=Tryz.zeroValue3
 t4:=Tryz.underlying4
 a4:=Tryz.isAgg4
 z4:=Tryz.sizeOf4
 v4:=Tryz.zeroValue4
 t5:=Tryz.underlying5
 a5:=Tryz.isAgg5
 z5:=Tryz.sizeOf5
 v5:=Tryz.zeroValue5
 t9:=Tryz.underlying9
 a9:=Tryz.isAgg9
 z9:=Tryz.sizeOf9
 v9:=Tryz.zeroValue9
 t46:=Tryz.underlying233
 a46:=Tryz.isAgg233
 z46:=Tryz.sizeOf233
 v46:=Tryz.zeroValue233
 t53:=Tryz.underlying22
 a53:=Tryz.isAgg22
 z53:=Tryz.sizeOf22
 v53:=Tryz.zeroValue22 }
theorem Tryz.bits_Len64 (x:Int) (w:World) (h0:0≤x) (h1:x≤18446744073709551615) :
  Calls Tryz.prog 181 #[.int .u64 x] w fun e w'=>e=.returned (.int .i64 (Lib.bitLen x.toNat))∧w'=w:=Any.bits_Len64 Tryz.lays129 x w h0 h1
def Tryz.lays264_ren:Go.Shelf.Ren:=⟨fun|264=>183|n=>n,fun|53=>22|46=>233|n=>n,fun|n=>n⟩
theorem Tryz.lays264:Go.Proofs.Lays.n264 Tryz.prog Tryz.lays264_ren:={
 mixed:=by kernel_rfl
 f264:=Tryz.func183.trans (congrArg some (by kernel_rfl))
 t46:=Tryz.underlying233
 a46:=Tryz.isAgg233
 z46:=Tryz.sizeOf233
 v46:=Tryz.zeroValue233
 t53:=Tryz.underlying22
 a53:=Tryz.isAgg22
 z53:=Tryz.sizeOf22
 v53:=Tryz.zeroValue22 }
open Go.RowKit Go.Lib in
theorem Tryz.bits_Mul64 (x y:Nat) (hx:x<18446744073709551616) (hy:y<18446744073709551616) (w:World) :
  Calls Tryz.prog 183 #[.int .u64 x,.int .u64 y] w fun e w'=>e=.returned (.tuple #[.int .u64 ((x*y / 18446744073709551616:Nat):Int),.int .u64 ((x*y%18446744073709551616:Nat):Int)])∧w'=w:=Any.bits_Mul64 Tryz.lays264 x y hx hy w
end Go.Proofs
namespace Go.Proofs.YtiaibpcaloigkaaGreatDoor
section
def zI (a:Nat):Nat:=if a=0 then 0 else a.log2+1
theorem sL {x k:Nat} (hk:1≤k) (h1:2 ^ (k - 1)≤x) (h2:x<2 ^ k):zI x=k:=by
 have hx:x≠0:=by have:=Nat.two_pow_pos (k - 1);omega
 unfold zI;rw[if_neg hx];have a:=(Nat.log2_lt hx).2 h2;have b:=(Nat.le_log2 hx).2 h1;omega
theorem uU {x:Nat} (hx:x≠0):1≤zI x∧2 ^ (zI x - 1)≤x∧x<2 ^ zI x:=by
 unfold zI;rw[if_neg hx];exact⟨by omega,by simpa using Nat.log2_self_le hx,Nat.lt_log2_self⟩
theorem tG (x:Nat):x<2 ^ zI x:=by
 by_cases hx:x=0
 ·subst hx;simp[zI]
 ·exact (uU hx).2.2
theorem y5 {x k:Nat} (h:x<2 ^ k):zI x≤k:=by
 by_cases hx:x=0
 ·subst hx;simp[zI]
 ·unfold zI;rw[if_neg hx];have:=(Nat.log2_lt hx).2 h;omega
theorem yY {x k:Nat}:zI x≤k↔x<2 ^ k :=
 ⟨fun h=>Nat.lt_of_lt_of_le (tG x) (Nat.pow_le_pow_right Om h),y5⟩
theorem bitLen_eq {x:Nat} (h:x<18446744073709551616):Lib.bitLen x=zI x:=by
 by_cases hx:x=0
 ·subst hx;rfl
 ·obtain⟨h1,h2,h3⟩:=Lib.bitLenAux_bounds 64 x h hx;exact (sL h1 h2 h3).symm
theorem tq {x lo s:Nat} (hx:x≠0) (hl:lo<2 ^ s):zI (lo+2 ^ s*x)=s+zI x:=by
 obtain⟨h1,h2,h3⟩:=uU hx;refine sL Om ?_ ?_
 ·rw[show s+zI x - 1=s+(zI x - 1) by omega,Nat.pow_add];have:=Nat.mul_le_mul_left (2 ^ s) h2;omega
 ·rw[Nat.pow_add];have:=Nat.mul_le_mul_left (2 ^ s) h3;rw[Nat.mul_succ] at this;omega
theorem pe {a:Nat} (ha:a<ze) {i:Nat} (hi:i<4) (hz:∀ j,i<j→j<4→wd j a=0) (hx:wd i a≠0):zI a=64*i+zI (wd i a):=by
 have hv:=vN ha;have l0:=ya 0 a;have l1:=ya 1 a;have l2:=ya 2 a;have:i=0∨i=1∨i=2∨i=3:=by omega
 rcases this with rfl|rfl|rfl|rfl
 ·have z1:=hz 1 Om Om;have z2:=hz 2 Om Om;have z3:=hz 3 Om Om;rw[z1,z2,z3] at hv;have e:wd 0 a=a:=by simp only[tk] at hv;omega
  rw[e];omega
 ·have z2:=hz 2 Om Om;have z3:=hz 3 Om Om;rw[z2,z3] at hv;have e:a=wd 0 a+2 ^ 64*wd 1 a:=by simp only[tk] at hv;omega
  have:=tq (s:=64) hx (show wd 0 a<2 ^ 64 by omega);rw[← e] at this;omega
 ·have z3:=hz 3 Om Om;rw[z3] at hv;have e:a=(wd 0 a+18446744073709551616*wd 1 a)+2 ^ 128*wd 2 a:=by simp only[tk] at hv;omega
  have:=tq (s:=128) hx (show wd 0 a+18446744073709551616*wd 1 a<2 ^ 128 by omega);rw[← e] at this;omega
 ·have e:a=(wd 0 a+18446744073709551616*wd 1 a+340282366920938463463374607431768211456*wd 2 a)+2 ^ 192*wd 3 a:=by simp only[tk] at hv;omega
  have:=tq (s:=192) hx (show wd 0 a+18446744073709551616*wd 1 a+340282366920938463463374607431768211456*wd 2 a<2 ^ 192 by omega);rw[← e] at this;omega
theorem mV {a:Nat} (ha:a<ze) (hz:∀ j,j<4→wd j a=0):a=0:=by
 have hv:=vN ha;rw[hz 0 Om,hz 1 Om,hz 2 Om,hz 3 Om] at hv;simp[tk] at hv;omega
def v6 (a i:Nat):Nat:=a / 2 ^ i%2
theorem rI (a i:Nat):v6 a i≤1:=by unfold v6;omega
theorem iu {a:Nat} (ha:a<ze) (i r:Nat) (hi:i<4) (hr:r<64):wd i a / 2 ^ r%2=v6 a (64*i+r):=by
 unfold v6;rw[Nat.pow_add,← Nat.div_div_eq_div_mul];have:i=0∨i=1∨i=2∨i=3:=by omega
 have gen:∀ n:Nat,n%18446744073709551616 / 2 ^ r%2=n / 2 ^ r%2:=by
  intro n;have e:(18446744073709551616:Nat)=2 ^ r*(2*2 ^ (63 - r)):=by
   rw[← Nat.pow_succ',← Nat.pow_add,show r+(63 - r+1)=64 by omega]
  rw[e,Nat.mod_mul_right_div_self,Nat.mod_mul_right_mod]
 rcases this with rfl|rfl|rfl|rfl<;>simp only[wd,gen]<;>simp
theorem d6 {a:Nat} (ha:a<ze) {i:Nat} (hi:256≤i):v6 a i=0:=by
 unfold v6;have:a / 2 ^ i=0:=Nat.div_eq_of_lt (Nat.lt_of_lt_of_le (show a<2 ^ 256 by unfold ze at ha;omega) (Nat.pow_le_pow_right Om hi));rw[this]
theorem adM (n:Nat) {i:Nat} (h:i<4):wd i n=n / 2 ^ (64*i)%2 ^ 64:=by
 have:i=0∨i=1∨i=2∨i=3:=by omega
 rcases this with rfl|rfl|rfl|rfl<;>simp[wd]
theorem dU (a i:Nat) (h:i<4):a / 2 ^ (64*i)=a / 2 ^ (64*(i+1))*18446744073709551616+wd i a:=by
 rw[adM a h,show 64*(i+1)=64*i+64 by omega,Nat.pow_add,← Nat.div_div_eq_div_mul,show (2:Nat) ^ 64=18446744073709551616 by decide];generalize a / 2 ^ (64*i)=x;omega
def tw (a b k:Nat):Nat:=a / 2 ^ (64*k)%b
theorem iB (a k:Nat) {b:Nat} (hb:0<b):tw a b k<b:=Nat.mod_lt _ hb
theorem eC (a b i:Nat) (h:i<4) (hb:0<b):(tw a b (i+1)*18446744073709551616+wd i a) / b=wd i (a / b)∧(tw a b (i+1)*18446744073709551616+wd i a)%b=tw a b i:=by
 have hs:=dU a i h;have hq:a / b / 2 ^ (64*i)=a / 2 ^ (64*i) / b:=by rw[Nat.div_div_eq_div_mul,Nat.div_div_eq_div_mul,Nat.mul_comm]
 have hw:=ya i a;unfold tw;rw[adM (a / b) h,hq,hs];generalize a / 2 ^ (64*(i+1))=x at *;generalize wd i a=d at *;have e:x*18446744073709551616+d=x%b*18446744073709551616+d+b*(x / b*18446744073709551616):=by
  have:=Nat.div_add_mod x b;have h2:b*(x / b*18446744073709551616)=(b*(x / b))*18446744073709551616:=by rw[Nat.mul_assoc]
  rw[h2];generalize b*(x / b)=y at *;omega
 have hlt:(x%b*18446744073709551616+d) / b<18446744073709551616:=by
  rw[Nat.div_lt_iff_lt_mul hb];have:=Nat.mod_lt x hb;generalize x%b=y at *;have:(y+1)*18446744073709551616≤b*18446744073709551616:=Nat.mul_le_mul_right _ this;rw[Nat.mul_comm b] at this;omega
 rw[e,Nat.add_mul_div_left _ _ hb,Nat.add_mul_mod_self_left];refine⟨?_,rfl⟩;rw[show (2:Nat) ^ 64=18446744073709551616 by decide,Nat.add_mul_mod_self_right,Nat.mod_eq_of_lt hlt]
theorem cu {a b:Nat} (ha:a<ze):tw a b 4=0:=by
 unfold tw;rw[Nat.div_eq_of_lt (by simpa [ze] using ha)];simp
theorem iN (a b:Nat):tw a b 0=a%b:=by simp[tw]
def qc (D k j:Nat):Nat:=if j<k then 0 else wd j D
def vh (D m:Nat):Nat:=D / 2 ^ m*2 ^ m
theorem tV (D:Nat):vh D 0=D:=by simp[vh]
theorem bO {D m:Nat} (h:D<2 ^ m):vh D m=0:=by simp[vh,Nat.div_eq_of_lt h]
theorem j0 (n:Nat) {i:Nat} (h:i<4) (t:Nat):(wd i n).testBit t=(decide (t<64) && n.testBit (64*i+t)):=by
 rw[adM n h,Nat.testBit_mod_two_pow,Nat.testBit_div_two_pow,Nat.add_comm t]
theorem sX (D m t:Nat):(vh D m).testBit t=(decide (m≤t) && D.testBit t):=by
 unfold vh;rw[Nat.mul_comm,Nat.testBit_two_pow_mul,Nat.testBit_div_two_pow]
 by_cases h:m≤t
 ·simp[h,show t - m+m=t by omega]
 ·simp[h]
theorem bB (D m:Nat):v6 D m=(D.testBit m).toNat:=by
 unfold v6;rw[Nat.testBit_eq_decide_div_mod_eq];have:=Nat.mod_two_eq_zero_or_one (D / 2 ^ m)
 rcases this with h|h<;>simp[h]
theorem fp (D m:Nat) {j:Nat} (h:j<4) (hj:j≠m / 64):wd j (vh D (m+1))=wd j (vh D m):=by
 apply Nat.eq_of_testBit_eq;intro t;rw[j0 _ h,j0 _ h,sX,sX]
 by_cases ht:t<64
 ·have:decide (m+1≤64*j+t)=decide (m≤64*j+t):=by
   rw[decide_eq_decide];omega
  rw[this]
 ·simp[ht]
theorem eQ (s:Nat):Nat.testBit 1 (s+1)=false:=by simp[Nat.testBit_succ]
theorem eM (D m:Nat) (h:m<256):wd (m / 64) (vh D (m+1)) ||| v6 D m*2 ^ (m%64)=wd (m / 64) (vh D m):=by
 apply Nat.eq_of_testBit_eq;intro t;rw[Nat.testBit_or,j0 _ Om,j0 _ Om,sX,sX,Nat.mul_comm (v6 D m),Nat.testBit_two_pow_mul,bB]
 by_cases ht:t<64
 ·by_cases h1:m%64=t
  ·have e:64*(m / 64)+t=m:=by omega
   subst h1;rw[e];cases D.testBit m<;>simp<;>omega
  ·have e1:decide (m+1≤64*(m / 64)+t)=decide (m≤64*(m / 64)+t):=by rw[decide_eq_decide];omega
   rw[e1]
   by_cases h2:m%64≤t
   ·obtain⟨s,hs⟩ : ∃ s,t - m%64=s+1:=⟨t - m%64 - 1,by omega⟩;rw[hs];cases D.testBit m<;>simp[eQ]
   ·simp[h2]
 ·rcases Nat.lt_or_ge t (m%64) with h2|h2
  ·omega
  ·obtain⟨s,hs⟩ : ∃ s,t - m%64=s+1:=⟨t - m%64 - 1,by omega⟩;rw[hs];cases D.testBit m<;>simp[ht,eQ]
theorem jy (a m:Nat):a / 2 ^ m=a / 2 ^ (m+1)+a / 2 ^ (m+1)+v6 a m:=by
 unfold v6;rw[Nat.pow_succ,← Nat.div_div_eq_div_mul];omega
theorem jO {a b:Nat} (m:Nat) (hb:0<b):(a / 2 ^ (m+1)%b+a / 2 ^ (m+1)%b+v6 a m)%b=a / 2 ^ m%b ∧
  (a / 2 ^ (m+1)%b+a / 2 ^ (m+1)%b+v6 a m) / b=v6 (a / b) m:=by
 have hs:=jy a m;have hle:=rI a m;have hq:v6 (a / b) m=a / 2 ^ m / b%2:=by
  unfold v6;rw[Nat.div_div_eq_div_mul,Nat.div_div_eq_div_mul,Nat.mul_comm]
 rw[hq,hs];generalize a / 2 ^ (m+1)=x at *;generalize v6 a m=d at *;have e:x+x+d=x%b+x%b+d+b*(2*(x / b)):=by
  have:=Nat.div_add_mod x b;have h2:b*(2*(x / b))=2*(b*(x / b)):=by rw[Nat.mul_left_comm]
  rw[h2];generalize b*(x / b)=y at *;omega
 have hlt:(x%b+x%b+d) / b<2:=by
  rw[Nat.div_lt_iff_lt_mul hb];have:=Nat.mod_lt x hb;omega
 rw[e,Nat.add_mul_div_left _ _ hb,Nat.add_mul_mod_self_left];refine⟨rfl,?_⟩;rw[Nat.add_mul_mod_self_left,Nat.mod_eq_of_lt hlt]
def Dig (u d h l q r:Nat):Prop:=q*h+r=u∧(u*4294967296+d) / (h*4294967296+l)≤q
theorem Dig.start {u d h l:Nat} (hh:2147483648≤h) (hd:d<4294967296):Dig u d h l (u / h) (u%h):=by
 refine⟨by rw[Nat.mul_comm];exact Nat.div_add_mod u h,?_⟩;have hp:0<h*4294967296+l:=by omega
 have hhp:0<h:=by omega
 rw[Nat.div_le_iff_le_mul_add_pred hp];have h1:=Nat.div_add_mod u h;have h2:=Nat.mod_lt u hhp;generalize u / h=q at *;generalize u%h=r at *;subst h1;have:(h*4294967296+l)*q=(h*q)*4294967296+l*q:=by rw[Nat.add_mul,Nat.mul_right_comm]
 rw[this];have:(h*q+r)*4294967296+d=(h*q)*4294967296+r*4294967296+d:=by omega
 omega
theorem Dig.down {u d h l q r:Nat} (hD:Dig u d h l q r) (hu:u<h*4294967296+l) (hd:d<4294967296) (hh:2147483648≤h)
  (hc:4294967296≤q∨4294967296*r+d<q*l):1≤q∧Dig u d h l (q - 1) (r+h):=by
 obtain⟨h1,h2⟩:=hD;have hp:0<h*4294967296+l:=by omega
 have hlt:(u*4294967296+d) / (h*4294967296+l)<q:=by
  rw[Nat.div_lt_iff_lt_mul hp]
  rcases hc with hc|hc
  ·have:4294967296*(h*4294967296+l)≤q*(h*4294967296+l):=Nat.mul_le_mul_right _ hc;generalize q*(h*4294967296+l)=z at *;omega
  ·have:q*(h*4294967296+l)=(q*h)*4294967296+q*l:=by rw[Nat.mul_add,Nat.mul_assoc]
   rw[this];omega
 have hq0:=Nat.lt_of_le_of_lt (Nat.zero_le _) hlt;obtain⟨q',rfl⟩ : ∃ q',q=q' + 1:=⟨q - 1,by omega⟩;refine⟨by omega,?_,Nat.le_of_lt_succ hlt⟩;simp only[Nat.add_sub_cancel];rw[Nat.add_mul,Nat.one_mul] at h1;omega
theorem Dig.stop {u d h l q r:Nat} (hD:Dig u d h l q r) (hq:q*l≤4294967296*r+d) (hh:2147483648≤h):q=(u*4294967296+d) / (h*4294967296+l):=by
 obtain⟨h1,h2⟩:=hD;have hp:0<h*4294967296+l:=by omega
 refine Nat.le_antisymm ?_ h2;rw[Nat.le_div_iff_mul_le hp];have:q*(h*4294967296+l)=(q*h)*4294967296+q*l:=by rw[Nat.mul_add,Nat.mul_assoc]
 rw[this];omega
theorem Dig.break_ {u d h l q r:Nat} (hD:Dig u d h l q r) (hr:4294967296≤r) (hu:u<h*4294967296+l) (hl:l<4294967296) (hh:2147483648≤h):q=(u*4294967296+d) / (h*4294967296+l):=by
 refine hD.stop ?_ hh;obtain⟨h1,h2⟩:=hD;have hq:q<4294967296:=by
  rcases Nat.lt_or_ge q 4294967296 with h3|h3
  ·exact h3
  ·have:4294967296*h≤q*h:=Nat.mul_le_mul_right _ h3;omega
 have:q*l≤4294967295*4294967295:=Nat.mul_le_mul Om Om;omega
theorem Dig.le {u d h l q r:Nat} (hD:Dig u d h l q r) (hu:u<18446744073709551616) (hh:2147483648≤h):q<8589934592∧r≤u:=by
 obtain⟨h1,_⟩:=hD;refine⟨?_,by omega⟩
 rcases Nat.lt_or_ge q 8589934592 with h3|h3
 ·exact h3
 ·have:8589934592*2147483648≤q*h:=Nat.mul_le_mul h3 hh;omega
theorem aaD {u d Y:Nat} (hu:u<Y) (hd:d<4294967296):(u*4294967296+d) / Y<4294967296:=by
 rw[Nat.div_lt_iff_lt_mul Om];omega
theorem gu {hi lo y s:Nat} (hs:s<64) (hy:y*2 ^ s<18446744073709551616) (hhi:hi<y) (hlo:lo<18446744073709551616) :
  hi*2 ^ s+lo / 2 ^ (64 - s)<y*2 ^ s ∧
  (hi*2 ^ s+lo / 2 ^ (64 - s))*18446744073709551616+lo*2 ^ s%18446744073709551616=(hi*18446744073709551616+lo)*2 ^ s:=by
 have hp:0<2 ^ (64 - s):=Nat.two_pow_pos _;have e:(18446744073709551616:Nat)=2 ^ s*2 ^ (64 - s):=by rw[← Nat.pow_add,show s+(64 - s)=64 by omega]
 have h1:lo / 2 ^ (64 - s)<2 ^ s:=by
  rw[Nat.div_lt_iff_lt_mul hp,← e];exact hlo
 have h2:(hi+1)*2 ^ s≤y*2 ^ s:=Nat.mul_le_mul_right _ hhi;rw[Nat.add_mul] at h2;refine⟨by omega,?_⟩;have h3:lo*2 ^ s / 18446744073709551616=lo / 2 ^ (64 - s):=by
  rw[e,Nat.mul_comm (2 ^ s) (2 ^ (64 - s)),← Nat.div_div_eq_div_mul,Nat.mul_comm lo,Nat.div_div_eq_div_mul,Nat.mul_comm (2 ^ (64 - s)),← Nat.div_div_eq_div_mul,Nat.mul_div_cancel_left _ (Nat.two_pow_pos _)]
 have h4:=Nat.div_add_mod (lo*2 ^ s) 18446744073709551616;rw[h3] at h4;rw[Nat.add_mul,Nat.add_mul,Nat.mul_right_comm];omega
theorem aa0 {hi lo s:Nat} (hs:s<64) (hlo:lo<18446744073709551616):(hi*2 ^ s) ||| (lo / 2 ^ (64 - s))=hi*2 ^ s+lo / 2 ^ (64 - s):=by
 refine nat_join s _ _ (Nat.mul_mod_left _ _) ?_;rw[Nat.div_lt_iff_lt_mul (Nat.two_pow_pos _),← Nat.pow_add,show s+(64 - s)=64 by omega];exact hlo
theorem fk {u d1 d0 Y q1 r1:Nat} (hY:0<Y) (e1:q1=(u*4294967296+d1) / Y) (e2:r1=(u*4294967296+d1)%Y) :
  q1*4294967296+(r1*4294967296+d0) / Y=(u*18446744073709551616+(d1*4294967296+d0)) / Y ∧
  (r1*4294967296+d0)%Y=(u*18446744073709551616+(d1*4294967296+d0))%Y:=by
 have h1:Y*q1+r1=u*4294967296+d1:=by rw[e1,e2];exact Nat.div_add_mod _ _
 clear e1 e2;have h2:Y*(q1*4294967296)=(Y*q1)*4294967296:=by rw[Nat.mul_assoc]
 have e:u*18446744073709551616+(d1*4294967296+d0)=(r1*4294967296+d0)+Y*(q1*4294967296):=by
  rw[h2];generalize Y*q1=z at h1;omega
 rw[e,Nat.add_mul_div_left _ _ hY,Nat.add_mul_mod_self_left];exact⟨Nat.add_comm _ _,rfl⟩
theorem aaq {U y p:Nat} (hp:0<p):U*p / (y*p)=U / y∧U*p%(y*p) / p=U%y:=by
 refine⟨Nat.mul_div_mul_right _ _ hp,?_⟩;rw[Nat.mul_mod_mul_right,Nat.mul_div_cancel _ hp]
theorem aaZ {y:Nat} (h0:y≠0) (h:y<18446744073709551616):zI y≤64∧1≤zI y∧9223372036854775808≤y*2 ^ (64 - zI y)∧y*2 ^ (64 - zI y)<18446744073709551616:=by
 obtain⟨h1,h2,h3⟩:=uU h0;have h4:zI y≤64:=y5 h;refine⟨h4,h1,?_,?_⟩
 ·have:=Nat.mul_le_mul_right (2 ^ (64 - zI y)) h2;rw[← Nat.pow_add,show zI y - 1+(64 - zI y)=63 by omega] at this;exact this
 ·have:=Nat.mul_lt_mul_of_pos_right h3 (Nat.two_pow_pos (64 - zI y));rw[← Nat.pow_add,show zI y+(64 - zI y)=64 by omega] at this;exact this
def WB:Nat:=18446744073709551616
def fu:List Nat→Nat
 | []=>0
 | x::l=>x+WB*fu l
theorem pG:∀ (l:List Nat) (j v:Nat),j<l.length→fu (l.set j v)+l.getD j 0*WB ^ j=fu l+v*WB ^ j
 | [],_,_,h=>by simp at h
 | x::l,0,v,_=>by simp[fu];omega
 | x::l,j+1,v,h=>by
  have ih:=pG l j v (by simpa using h);simp only[List.set_cons_succ,fu,List.getD_cons_succ,Nat.pow_succ'];have h1:WB*(fu (l.set j v)+l.getD j 0*WB ^ j)=WB*(fu l+v*WB ^ j):=by rw[ih]
  rw[Nat.mul_add,Nat.mul_add] at h1;rw[show l.getD j 0*(WB*WB ^ j)=WB*(l.getD j 0*WB ^ j) by rw[Nat.mul_left_comm],show v*(WB*WB ^ j)=WB*(v*WB ^ j) by rw[Nat.mul_left_comm]];omega
theorem iD (n:Nat):fu (List.replicate n 0)=0:=by
 induction n with
 | zero=>rfl
 | succ n ih=>simp[List.replicate_succ,fu,ih]
def rX (a:Nat):Nat→Nat
 | 0=>0
 | k+1=>rX a k+wd k a*WB ^ k
theorem m5 {a:Nat} (h:a<ze):rX a 4=a:=by
 have:=vN h;simp only[rX,tk,WB] at *;omega
def uP (a b i k more:Nat) (l:List Nat):Prop :=
 l.length=8∧(∀ x∈l,x<18446744073709551616)∧more<18446744073709551616∧(∀ j,i+4≤j→l.getD j 0=0) ∧
 fu l+more*WB ^ (i+k)=rX a i*b+wd i a*rX b k*WB ^ i
theorem uP.step {a b i k more:Nat} {l:List Nat} (h:uP a b i k more l) (hi:i<4) (hk:k<4) :
  uP a b i (k+1) ((wd i a*wd k b+l.getD (i+k) 0+more) / 18446744073709551616) (l.set (i+k) ((wd i a*wd k b+l.getD (i+k) 0+more)%18446744073709551616)):=by
 obtain⟨h1,h2,h3,h4,h5⟩:=h;have hx:=ya i a;have hy:=ya k b;have hl:l.getD (i+k) 0<18446744073709551616:=by
  rw[List.getD_eq_getElem?_getD,List.getElem?_eq_getElem Om,Option.getD_some];exact h2 _ (List.getElem_mem _)
 have hm:wd i a*wd k b≤18446744073709551615*18446744073709551615:=Nat.mul_le_mul Om Om;have hdm:=Nat.div_add_mod (wd i a*wd k b+l.getD (i+k) 0+more) 18446744073709551616;refine⟨by simp[h1],fun x hx'=>?_,?_,fun j hj=>?_,?_⟩
 ·rcases List.mem_or_eq_of_mem_set hx' with h|h
  ·exact h2 x h
  ·rw[h];exact Nat.mod_lt _ Om
 ·generalize wd i a*wd k b=p at *;omega
 ·rw[List.getD_eq_getElem?_getD,List.getElem?_set_ne Om,← List.getD_eq_getElem?_getD];exact h4 j hj
 ·have hs:=pG l (i+k) ((wd i a*wd k b+l.getD (i+k) 0+more)%18446744073709551616) Om;generalize (wd i a*wd k b+l.getD (i+k) 0+more) / 18446744073709551616=H at *;generalize (wd i a*wd k b+l.getD (i+k) 0+more)%18446744073709551616=L at *;generalize fu (l.set (i+k) L)=V' at *;generalize l.getD (i+k) 0=c at *;have e1:H*WB ^ (i+(k+1))=(WB*H)*WB ^ (i+k):=by
   rw[show i+(k+1)=(i+k)+1 by omega,Nat.pow_succ',← Nat.mul_assoc,Nat.mul_comm H WB]
  have e2:(18446744073709551616*H+L)*WB ^ (i+k)=(wd i a*wd k b+c+more)*WB ^ (i+k):=by rw[hdm]
  rw[Nat.add_mul,Nat.add_mul,Nat.add_mul] at e2;have e3:wd i a*rX b (k+1)*WB ^ i=wd i a*rX b k*WB ^ i+wd i a*wd k b*WB ^ (i+k):=by
   simp only[rX];rw[Nat.mul_add,Nat.add_mul];congr 1;rw[Nat.pow_add,Nat.mul_assoc,Nat.mul_assoc,Nat.mul_assoc,Nat.mul_comm (WB ^ k) (WB ^ i)]
  rw[e1,e3];have e4:WB*H=18446744073709551616*H:=rfl;rw[e4];omega
theorem uP.next {a b i more:Nat} {l:List Nat} (h:uP a b i 4 more l) (hb:b<ze) (hi:i<4):uP a b (i+1) 0 0 (l.set (i+4) more):=by
 obtain⟨h1,h2,h3,h4,h5⟩:=h;have hs:=pG l (i+4) more Om;rw[h4 (i+4) Om] at hs;refine⟨by simp[h1],fun x hx=>?_,by omega,fun j hj=>?_,?_⟩
 ·rcases List.mem_or_eq_of_mem_set hx with h|h
  ·exact h2 x h
  ·rw[h];exact h3
 ·rw[List.getD_eq_getElem?_getD,List.getElem?_set_ne Om,← List.getD_eq_getElem?_getD];exact h4 j Om
 ·rw[m5 hb] at h5;simp only[rX,Nat.zero_mul,Nat.mul_zero,Nat.add_zero] at hs ⊢;rw[Nat.add_mul,hs,h5,Nat.mul_assoc,Nat.mul_comm b,← Nat.mul_assoc]
theorem uP.start (a b:Nat):uP a b 0 0 0 (List.replicate 8 0):=by
 refine⟨rfl,fun x hx=>?_,by omega,fun j _=>?_,?_⟩
 ·rw[List.eq_of_mem_replicate hx];omega
 ·have:∀ (n j:Nat),(List.replicate n 0).getD j 0=0:=by
   intro n j;rw[List.getD_eq_getElem?_getD,List.getElem?_replicate]
   split<;>rfl
  exact this 8 j
 ·rw[iD];simp[rX]
theorem ady {a b:Nat} {l:List Nat} (h:uP a b 4 0 0 l) (ha:a<ze) :
  tk (l.getD 0 0) (l.getD 1 0) (l.getD 2 0) (l.getD 3 0)=a*b%ze∧tk (l.getD 4 0) (l.getD 5 0) (l.getD 6 0) (l.getD 7 0)=a*b / ze:=by
 obtain⟨h1,h2,_,_,h5⟩:=h;rw[m5 ha] at h5
 match l,h1 with
 | [x0,x1,x2,x3,x4,x5,x6,x7],_ =>
  have b0:=h2 x0 Sm;have b1:=h2 x1 Sm;have b2:=h2 x2 Sm;have b3:=h2 x3 Sm;simp only[rX,Nat.zero_mul,Nat.mul_zero,Nat.add_zero] at h5;rw[← h5];have hlo:=kh b0 b1 b2 b3;have e:fu [x0,x1,x2,x3,x4,x5,x6,x7]=tk x0 x1 x2 x3+ze*tk x4 x5 x6 x7:=by
   simp only[fu,WB,tk,ze];omega
  rw[e];show tk x0 x1 x2 x3=_∧tk x4 x5 x6 x7=_;have hp:0<ze:=by unfold ze;omega
  rw[Nat.add_mul_mod_self_left,Nat.mod_eq_of_lt hlo,Nat.add_mul_div_left _ _ hp,Nat.div_eq_of_lt hlo];exact⟨rfl,by omega⟩
end
section
namespace Sx
def ux (q:Nat) (l:List Nat):Bool:=decide (1<q) && l.all (fun x=>decide (x<q))
theorem vL {q:Nat} {l:List Nat} (h:ux q l=true):1<q∧∀ x∈l,x<q:=by
 unfold ux at h;simpa using h
def ye:List Nat→Nat→Nat
 | [],_=>0
 | c::r,x=>c+x*ye r x
theorem fx (p:List Nat) (c x:Nat):ye (p++[c]) x=ye p x+c*x ^ p.length:=by
 induction p with
 | nil=>simp[ye]
 | cons a r ih =>
  simp only[List.cons_append,ye,ih,List.length_cons,Nat.pow_succ,Nat.mul_add];rw[Nat.add_assoc,Nat.mul_left_comm x c,Nat.mul_comm x (x ^ r.length)]
def iW (q x:Nat):List Nat→Nat
 | []=>0
 | c::r=>(iW q x r*x%q+c)%q
theorem aC (q x:Nat) (p:List Nat):iW q x p=ye p x%q:=by
 induction p with
 | nil=>simp[iW,ye]
 | cons c r ih =>
  simp only[iW,ye,ih];rw[Nat.mod_mul_mod,Nat.mod_add_mod,Nat.add_comm,Nat.mul_comm]
def ofZ (q:Nat) (n:Int):Nat:=if q<2 then 0 else (n%(q:Int)).toNat
theorem eo (q m:Nat) (h:0<q):ofZ q (m:Int)=m%q:=by
 unfold ofZ;split
 ·have:q=1:=by omega
  subst this;rw[Nat.mod_one]
 ·rw[← Int.natCast_emod,Int.toNat_natCast]
end Sx
end
end Go.Proofs.YtiaibpcaloigkaaGreatDoor
