/- Part 1 of the proof: SxA, SxB -/
import Derived.WalkKit
import Derived.Deep.Draws
import Derived.Laws.Rows
import Derived.BigCall
set_option linter.unusedSimpArgs false
set_option linter.unusedVariables false
namespace Go.Proofs.YtiiacjladnljhaaGreatDoor
open Go Go.RowKit
namespace Sx
def lk:List (Nat × Value)→Nat→Option Value
  | [],_=>none
  | (k,v)::r,t=>bif Nat.beq k t then some v else lk r t
def ev (K:List (Nat × Value)):Operand→Option Value
  | .tmp t=>lk K t
  | .const v=>some v
  | .global g=>some (.pointer (some ⟨g,0,none⟩))
  | .func f=>some (.func (.func f) #[] #[])
def evs (K:List (Nat × Value)):List Operand→Option (List Value)
  | []=>some []
  | x::r=>match ev K x with
    | some v=>match evs K r with
      | some vs=>some (v::vs)
      | none=>none
    | none=>none
def Kn (K:List (Nat × Value)) (a:Act):Prop:=∀ t v,lk K t=some v→a.tmps[t]?=some v
theorem Kn.eval {K:List (Nat × Value)} {a:Act} (h:Kn K a) {x:Operand} {v:Value} (hx:ev K x=some v):a.eval x=v:=by
  cases x with
  | tmp t =>
    have:=h t v hx
    simp only[Act.eval,Array.getD_eq_getD_getElem?,this]
    rfl
  | const c=>exact Option.some.inj hx
  | global g=>exact Option.some.inj hx
  | func f=>exact Option.some.inj hx
theorem Kn.evals {K:List (Nat × Value)} {a:Act} (h:Kn K a):∀ {xs:List Operand} {vs:List Value},evs K xs=some vs→xs.map a.eval=vs
  | [],vs,hx=>by cases hx;rfl
  | x::r,vs,hx=>by
    unfold evs at hx
    cases h1:ev K x with
    | none=>rw[h1] at hx;cases hx
    | some v =>
      cases h2:evs K r with
      | none=>rw[h1,h2] at hx;cases hx
      | some us =>
        rw[h1,h2] at hx
        cases hx
        simp only[List.map_cons,h.eval h1,h.evals h2]
theorem Kn.put {K:List (Nat × Value)} {a:Act} (h:Kn K a) {d:Nat} (hd:d<a.tmps.size) (v:Value):Kn ((d,v)::K) (a.put (some d) v):=by
  intro t u ht
  unfold lk at ht
  simp only[Act.put]
  by_cases e:d=t
  · subst e
    rw[Nat.beq_refl] at ht
    simp only[cond_true] at ht
    cases ht
    simp[hd]
  · have:Nat.beq d t=false:=by
      cases hb:Nat.beq d t with
      | false=>rfl
      | true=>exact absurd (Nat.eq_of_beq_eq_true hb) e
    rw[this] at ht
    rw[Array.getElem?_setIfInBounds_ne e]
    exact h t u ht
theorem put_size (a:Act) (d:Option Tmp) (v:Value):(a.put d v).tmps.size=a.tmps.size:=by
  cases d<;>simp[Act.put]
theorem put_defers (a:Act) (d:Option Tmp) (v:Value):(a.put d v).defers=a.defers:=by
  cases d<;>rfl
structure Ent where
  g:Nat
  t:TypeId
  cs:List Value
def Ent.ok (e:Ent) (w:World):Prop:=∃ t fr,w.heap[e.g]?=some (.cells e.cs.toArray t fr)∧(e.t≠0→t=e.t∧fr=(0,0))
theorem Ent.ok.of {e:Ent} {w:World} (h:w.heap[e.g]?=some (.cells e.cs.toArray e.t (0,0))):e.ok w:=⟨_,_,h,fun _=>⟨rfl,rfl⟩⟩
theorem Ent.ok.row {e:Ent} {w:World} (h:e.ok w) (ht:e.t≠0):w.heap[e.g]?=some (.cells e.cs.toArray e.t (0,0)):=by
  obtain⟨t,fr,h1,h2⟩:=h
  obtain⟨rfl,rfl⟩:=h2 ht
  exact h1
theorem Ent.ok.keep {e:Ent} {w w' : World} (h:e.ok w) (he:w'.heap[e.g]?=w.heap[e.g]?):e.ok w':=by
  obtain⟨t,fr,h1,h2⟩:=h
  exact⟨t,fr,he.trans h1,h2⟩
structure Mod (gs:List Nat) (w w' : World):Prop where
  os:w'.os=w.os
  tape:w'.tape=w.tape
  output:w'.output=w.output
  size:w.heap.size≤w'.heap.size
  block:∀ k,k<w.heap.size→k ∉ gs→w'.heap[k]?=w.heap[k]?
theorem Mod.refl (gs:List Nat) (w:World):Mod gs w w:=⟨rfl,rfl,rfl,Nat.le_refl _,fun _ _ _=>rfl⟩
theorem Mod.trans {gs:List Nat} {a b c:World} (h:Mod gs a b) (k:Mod gs b c):Mod gs a c :=
  ⟨k.os.trans h.os,k.tape.trans h.tape,k.output.trans h.output,Nat.le_trans h.size k.size,fun i hi hn=>(k.block i (Nat.lt_of_lt_of_le hi h.size) hn).trans (h.block i hi hn)⟩
theorem Mod.of_below {w w' : World} (h:Below w.heap.size w w') (gs:List Nat):Mod gs w w':=⟨h.os,h.tape,h.output,h.size,fun k hk _=>h.block k hk⟩
theorem Mod.below {w w' : World} (h:Mod [] w w'):Below w.heap.size w w':=⟨h.os,h.tape,h.output,h.size,fun k hk=>h.block k hk (by simp)⟩
structure Me (w0:World) (gs:List Nat) (L:List Ent) (w:World):Prop where
  mod:Mod gs w0 w
  ok:∀ e∈L,e.ok w
  mine:∀ e∈L,w0.heap.size≤e.g∨e.g∈gs
  nodup:(L.map Ent.g).Nodup
structure Mr (w0:World) (gs:List Nat) (L:List Ent) (w:World):Prop where
  mod:Mod gs w0 w
  ok:∀ e∈L,e.ok w
theorem Me.mr {w0 w:World} {gs:List Nat} {L:List Ent} (h:Me w0 gs L w):Mr w0 gs L w:=⟨h.mod,h.ok⟩
theorem Ent.ok.lt {e:Ent} {w:World} (h:e.ok w):e.g<w.heap.size:=by
  rcases Nat.lt_or_ge e.g w.heap.size with hlt|hge
  · exact hlt
  · obtain⟨t,fr,h1,_⟩:=h;rw[Array.getElem?_eq_none hge] at h1;cases h1
theorem Me.refl (w0:World) (gs:List Nat):Me w0 gs [] w0:=⟨.refl _ _,by simp,by simp,by simp⟩
theorem Me.below {w0 w w' : World} {gs:List Nat} {L:List Ent} (h:Me w0 gs L w) (hb:Below w.heap.size w w'):Me w0 gs L w' :=
  ⟨h.mod.trans (.of_below hb gs),fun e he=>(h.ok e he).keep (hb.block e.g (h.ok e he).lt),h.mine,h.nodup⟩
theorem Me.alloc {w0 w:World} {gs:List Nat} {L:List Ent} (h:Me w0 gs L w) (t:TypeId) (cs:List Value):Me w0 gs (⟨w.heap.size,t,cs⟩::L) (w.alloc (.cells cs.toArray t)):=by
  have h':=h.below ((Below.refl w.heap.size w).alloc (Nat.le_refl _) (.cells cs.toArray t))
  refine⟨h'.mod,?_,?_,?_⟩
  · intro e he
    rcases List.mem_cons.1 he with rfl|he
    · exact .of (heap_alloc_new w _)
    · exact h'.ok e he
  · intro e he
    rcases List.mem_cons.1 he with rfl|he
    · exact .inl h.mod.size
    · exact h.mine e he
  · rw[List.map_cons,List.nodup_cons]
    refine⟨fun hm=>?_,h.nodup⟩
    obtain⟨e,he,hg⟩:=List.mem_map.1 hm
    have:=(h.ok e he).lt
    simp only at hg
    omega
structure News (B:Nat) (N:List Ent) (w:World):Prop where
  ok:∀ e∈N,e.ok w
  new:∀ e∈N,B≤e.g
  nodup:(N.map Ent.g).Nodup
theorem News.nil (B:Nat) (w:World):News B [] w:=⟨by simp,by simp,by simp⟩
theorem Me.add {w0 w w' : World} {gs:List Nat} {L N:List Ent} (h:Me w0 gs L w) (hb:Below w.heap.size w w') (hn:News w.heap.size N w'):Me w0 gs (N++L) w':=by
  have h':=h.below hb
  refine⟨h'.mod,fun e he=>?_,fun e he=>?_,?_⟩
  · rcases List.mem_append.1 he with he|he
    · exact hn.ok e he
    · exact h'.ok e he
  · rcases List.mem_append.1 he with he|he
    · exact .inl (Nat.le_trans h.mod.size (hn.new e he))
    · exact h.mine e he
  · rw[List.map_append,List.nodup_append]
    refine⟨hn.nodup,h.nodup,fun x hx y hy e=>?_⟩
    obtain⟨e1,he1,rfl⟩:=List.mem_map.1 hx
    obtain⟨e2,he2,rfl⟩:=List.mem_map.1 hy
    have:=hn.new e1 he1
    have:=(h.ok e2 he2).lt
    omega
theorem Me.sub {w0 w:World} {gs:List Nat} {L L' : List Ent} (h:Me w0 gs L w) (hs:L'.Sublist L):Me w0 gs L' w :=
  ⟨h.mod,fun e he=>h.ok e (hs.subset he),fun e he=>h.mine e (hs.subset he),h.nodup.sublist (hs.map _)⟩
inductive Hs:List Ent→Nat→TypeId→List Value→Prop
  | here {L:List Ent} {g:Nat} {t:TypeId} {cs:List Value}:Hs (⟨g,t,cs⟩::L) g t cs
  | there {L:List Ent} {g:Nat} {t:TypeId} {cs:List Value} {e:Ent}:Hs L g t cs→Hs (e::L) g t cs
theorem Hs.mem {L:List Ent} {g:Nat} {t:TypeId} {cs:List Value} (h:Hs L g t cs):(⟨g,t,cs⟩ : Ent)∈L:=by
  induction h with
  | here=>simp
  | there _ ih=>exact List.mem_cons_of_mem _ ih
inductive Rp:List Ent→Nat→TypeId→List Value→List Value→List Ent→Prop
  | here {L:List Ent} {g:Nat} {t:TypeId} {cs cs' : List Value}:Rp (⟨g,t,cs⟩::L) g t cs cs' (⟨g,t,cs'⟩::L)
  | there {L L' : List Ent} {g:Nat} {t:TypeId} {cs cs' : List Value} {e:Ent}:Rp L g t cs cs' L'→Rp (e::L) g t cs cs' (e::L')
theorem Rp.mem {L L' : List Ent} {g:Nat} {t:TypeId} {cs cs' : List Value} (h:Rp L g t cs cs' L'):(⟨g,t,cs⟩ : Ent)∈L:=by
  induction h with
  | here=>simp
  | there _ ih=>exact List.mem_cons_of_mem _ ih
theorem Rp.gs {L L' : List Ent} {g:Nat} {t:TypeId} {cs cs' : List Value} (h:Rp L g t cs cs' L'):L'.map Ent.g=L.map Ent.g:=by
  induction h with
  | here=>rfl
  | there _ ih=>simp[ih]
theorem Rp.at {L L' : List Ent} {g:Nat} {t:TypeId} {cs cs' : List Value} (h:Rp L g t cs cs' L'):(L.map Ent.g).Nodup→∀ e∈L',e=⟨g,t,cs'⟩∨(e∈L∧e.g≠g):=by
  induction h with
  | here =>
    intro hn e he
    rcases List.mem_cons.1 he with rfl|he
    · exact .inl rfl
    · refine .inr ⟨List.mem_cons_of_mem _ he,fun hg=>?_⟩
      rw[List.map_cons,List.nodup_cons] at hn
      exact hn.1 (List.mem_map.2 ⟨e,he,hg⟩)
  | there hr ih =>
    intro hn e he
    rw[List.map_cons,List.nodup_cons] at hn
    rcases List.mem_cons.1 he with rfl|he
    · refine .inr ⟨by simp,fun hg=>?_⟩
      exact hn.1 (List.mem_map.2 ⟨_,hr.mem,hg.symm⟩)
    · rcases ih hn.2 e he with h1|h1
      · exact .inl h1
      · exact .inr ⟨List.mem_cons_of_mem _ h1.1,h1.2⟩
theorem Me.write {w0 w w' : World} {gs:List Nat} {L L' : List Ent} {g:Nat} {t:TypeId} {cs cs' : List Value} (h:Me w0 gs L w) (hr:Rp L g t cs cs' L')
    (hos:w'.os=w.os) (htape:w'.tape=w.tape) (hout:w'.output=w.output) (hsz:w.heap.size≤w'.heap.size)
    (hne:∀ k,k<w.heap.size→k≠g→w'.heap[k]?=w.heap[k]?) (hg:w'.heap[g]?=some (.cells cs'.toArray t (0,0))):Me w0 gs L' w':=by
  have hm:=h.mine _ hr.mem
  refine⟨⟨hos.trans h.mod.os,htape.trans h.mod.tape,hout.trans h.mod.output,Nat.le_trans h.mod.size hsz,fun k hk hn=>?_⟩,fun e he=>?_,fun e he=>?_,?_⟩
  · refine (hne k (Nat.lt_of_lt_of_le hk h.mod.size) (fun e=>?_)).trans (h.mod.block k hk hn)
    subst e
    rcases hm with hm|hm
    · simp only at hm;omega
    · exact hn hm
  · rcases hr.at h.nodup e he with rfl|⟨he,hne'⟩
    · exact .of hg
    · exact (h.ok e he).keep (hne e.g (h.ok e he).lt hne')
  · rcases hr.at h.nodup e he with rfl|⟨he,_⟩
    · exact hm
    · exact h.mine e he
  · rw[hr.gs];exact h.nodup
def Seg (w:World) (b off:Nat) (cs:List Value):Prop:=∀ i v,cs[i]?=some v→w.cell? ⟨b,off+i,none⟩=some v
theorem cell_lt {w:World} {p:Addr} {v:Value} (h:w.cell? p=some v):p.block<w.heap.size:=by
  rcases Nat.lt_or_ge p.block w.heap.size with h1|h1
  · exact h1
  · unfold World.cell? at h
    rw[Array.getElem?_eq_none h1] at h
    cases h
theorem Seg.mod {w w' : World} {b off:Nat} {cs:List Value} {gs:List Nat} (h:Seg w b off cs) (hm:Mod gs w w') (hb:b ∉ gs):Seg w' b off cs:=by
  intro i v hv
  have h1:=h i v hv
  have h2:w'.heap[b]?=w.heap[b]?:=hm.block b (cell_lt h1) hb
  rw[← h1]
  exact World.cell?_of_block (w:=w) h2
theorem Ent.ok.cell {e:Ent} {w:World} (h:e.ok w) (i:Nat):w.cell? ⟨e.g,i,none⟩=e.cs[i]?:=by
  obtain⟨t,fr,h1,_⟩:=h
  rw[cell_of_row w e.g i e.cs.toArray t fr h1];simp
theorem Ent.ok.seg {e:Ent} {w:World} (h:e.ok w) (off:Nat):Seg w e.g off (e.cs.drop off):=by
  intro i v hv
  rw[h.cell,← hv,List.getElem?_drop]
end Sx
end Go.Proofs.YtiiacjladnljhaaGreatDoor
namespace Go.Proofs.YtiiacjladnljhaaGreatDoor
open Go Go.RowKit Go.BigFrame
namespace Sx
class AgT (P:Program) (t:TypeId) (n:outParam Nat):Prop where
  agg:∀ w,(isAgg t).run P w=.ok true w
  size:∀ w,(sizeOf t).run P w=.ok n w
class OnT (P:Program) (t:TypeId):Prop where
  agg:∀ w,(isAgg t).run P w=.ok false w
  size:∀ w,(sizeOf t).run P w=.ok 1 w
class ZeT (P:Program) (t:TypeId) (v:outParam Value):Prop where
  zero:∀ w,(zeroValue t).run P w=.ok v w
class FlT (P:Program) (s:TypeId) (i:Nat) (off:outParam Nat):Prop where
  place:∀ w a,(Instr.fieldAt s (.pointer (some a)) i).run P w=.ok (.pointer (some (a.add off))) w
class ArT (P:Program) (t:TypeId) (len elem size:outParam Nat):Prop where
  under:P.underlying t=some (.array len elem)
  size:∀ w,(sizeOf elem).run P w=.ok size w
class SlT (P:Program) (t:TypeId) (elem size:outParam Nat):Prop where
  under:P.underlying t=some (.slice elem)
  size:∀ w,(sizeOf elem).run P w=.ok size w
class Cal (P:Program) (f:FuncId):Prop where
  run:∀ args w,(callFunc f args).run P w=.ok (.enter f args) w
theorem add_mk (g o j:Nat):(⟨g,o,none⟩ : Addr).add j=⟨g,o+j,none⟩:=by
  unfold Addr.add;split
  · rename_i h;simp[h]
  · rfl
section
variable {P:Program} {w0:World} {gs:List Nat} {K:List (Nat × Value)} {L:List Ent}
def Does (P:Program) (w0:World) (gs:List Nat) (K:List (Nat × Value)) (L:List Ent) (op:Op) (ty:TypeId) (v:Value):Prop :=
  ∀ a w,Kn K a→Mr w0 gs L w→∀ o:Oper,o.op=op→o.type=ty→(execOp a.eval o).run P w=.ok (.value v) w
def cut (cs:List Value) (off n:Nat):List Value:=(cs.drop off).take n
theorem cut_get {cs vs:List Value} {off n:Nat} (h:cut cs off n=vs) {j:Nat} {v:Value} (hj:vs[j]?=some v):cs[off+j]?=some v:=by
  subst h
  unfold cut at hj
  rw[List.getElem?_take] at hj
  split at hj
  · rwa [List.getElem?_drop] at hj
  · cases hj
theorem run_loadVar_agg {t n:Nat} [AgT P t n] (w:World) (g off:Nat) (vs:List Value) (hl:vs.length=n) (h:∀ j v,vs[j]?=some v→w.cell? ⟨g,off+j,none⟩=some v) :
    (loadVar t ⟨g,off,none⟩).run P w=.ok (.agg vs.toArray) w:=by
  have h1:=run_loadCells_list (P:=P) w ⟨g,off,none⟩ vs (fun j v hv=>by rw[add_mk];exact h j v hv)
  unfold loadVar
  subst hl
  simp only[Sem.run_bind,AgT.agg (P:=P) (t:=t) w,AgT.size (P:=P) (t:=t) w,Result.andThen_ok,if_true,h1]
  rfl
theorem run_loadVar_one {t:Nat} [OnT P t] (w:World) (g off:Nat) (v:Value) (h:w.cell? ⟨g,off,none⟩=some v) :
    (loadVar t ⟨g,off,none⟩).run P w=.ok v w:=by
  unfold loadVar
  simp only[Sem.run_bind,OnT.agg (P:=P) (t:=t) w,Result.andThen_ok,Bool.false_eq_true,if_false,run_load,h]
theorem does_move {x:Operand} {ty:TypeId} {v:Value} (hx:ev K x=some v):Does P w0 gs K L (.move x) ty v:=by
  intro a w hk _ o ho _
  simp only[execOp,ho,hk.eval hx];rfl
theorem does_assign {x:Operand} {ty:TypeId} {v:Value} (hx:ev K x=some v):Does P w0 gs K L (.assign x) ty v:=by
  intro a w hk _ o ho _
  simp only[execOp,ho,hk.eval hx];rfl
theorem does_pickT {c x y:Operand} {ty:TypeId} {v:Value} (hc:ev K c=some (.bool true)) (hx:ev K x=some v):Does P w0 gs K L (.pick c x y) ty v:=by
  intro a w hk _ o ho _
  simp only[execOp,ho,hk.eval hx,hk.eval hc];rfl
theorem does_pickF {c x y:Operand} {ty:TypeId} {v:Value} (hc:ev K c=some (.bool false)) (hy:ev K y=some v):Does P w0 gs K L (.pick c x y) ty v:=by
  intro a w hk _ o ho _
  simp only[execOp,ho,hk.eval hy,hk.eval hc];rfl
theorem does_load {t g off t' n:Nat} {cs vs:List Value} {x:Operand} {ty:TypeId} [AgT P t n] (hx:ev K x=some (.pointer (some ⟨g,off,none⟩)))
    (hm:Hs L g t' cs) (hc:cut cs off n=vs) (hl:vs.length=n):Does P w0 gs K L (.load t x) ty (.agg vs.toArray):=by
  intro a w hk hme o ho _
  have hok:=hme.ok _ hm.mem
  have h1:=run_loadVar_agg (P:=P) (t:=t) w g off vs hl (fun j v hj=>by rw[hok.cell (off+j)];exact cut_get hc hj)
  simp only[execOp,ho,hk.eval hx,Instr.loadAt,Instr.sureAddr,Sem.run_bind,Sem.run_pure,Result.andThen_ok,h1]
theorem does_load1 {t g off t' : Nat} {cs:List Value} {v:Value} {x:Operand} {ty:TypeId} [OnT P t] (hx:ev K x=some (.pointer (some ⟨g,off,none⟩)))
    (hm:Hs L g t' cs) (hc:cs[off]?=some v):Does P w0 gs K L (.load t x) ty v:=by
  intro a w hk hme o ho _
  have hok:=hme.ok _ hm.mem
  have h1:=run_loadVar_one (P:=P) (t:=t) w g off v (by rw[hok.cell off];exact hc)
  simp only[execOp,ho,hk.eval hx,Instr.loadAt,Instr.sureAddr,Sem.run_bind,Sem.run_pure,Result.andThen_ok,h1]
theorem does_loadF {t b off n i:Nat} {cs vs:List Value} {x:Operand} {ty:TypeId} [AgT P t n] (hs:Seg w0 b off cs) (hx:ev K x=some (.pointer (some ⟨b,off+i,none⟩)))
    (hb:b ∉ gs) (hc:cut cs i n=vs) (hl:vs.length=n):Does P w0 gs K L (.load t x) ty (.agg vs.toArray):=by
  intro a w hk hme o ho _
  have hs':=hs.mod hme.mod hb
  have h1:=run_loadVar_agg (P:=P) (t:=t) w b (off+i) vs hl (fun j v hj=>by rw[Nat.add_assoc];exact hs' (i+j) v (cut_get hc hj))
  simp only[execOp,ho,hk.eval hx,Instr.loadAt,Instr.sureAddr,Sem.run_bind,Sem.run_pure,Result.andThen_ok,h1]
theorem does_loadF1 {t b off i:Nat} {cs:List Value} {v:Value} {x:Operand} {ty:TypeId} [OnT P t] (hs:Seg w0 b off cs) (hx:ev K x=some (.pointer (some ⟨b,off+i,none⟩)))
    (hb:b ∉ gs) (hc:cs[i]?=some v):Does P w0 gs K L (.load t x) ty v:=by
  intro a w hk hme o ho _
  have h1:=run_loadVar_one (P:=P) (t:=t) w b (off+i) v (hs.mod hme.mod hb i v hc)
  simp only[execOp,ho,hk.eval hx,Instr.loadAt,Instr.sureAddr,Sem.run_bind,Sem.run_pure,Result.andThen_ok,h1]
theorem does_fieldAddr {s i off g o o' : Nat} {x:Operand} {ty:TypeId} [FlT P s i off] (hx:ev K x=some (.pointer (some ⟨g,o,none⟩))) (ho:o+off=o') :
    Does P w0 gs K L (.fieldAddr s x i) ty (.pointer (some ⟨g,o',none⟩)):=by
  intro a w hk _ oo hoo _
  subst ho
  have:=FlT.place (P:=P) (s:=s) (i:=i) (off:=off) w ⟨g,o,none⟩
  rw[add_mk] at this
  simp only[execOp,hoo,hk.eval hx,Sem.run_bind,this,Result.andThen_ok,Sem.run_pure]
theorem does_nilCheck {x:Operand} {ty:TypeId} {p:Addr} (hx:ev K x=some (.pointer (some p))):Does P w0 gs K L (.nilCheck x) ty (.pointer (some p)):=by
  intro a w hk _ o ho _
  simp only[execOp,ho,hk.eval hx];rfl
theorem does_indexAddr {t g o i len elem size o' : Nat} {k:IntKind} {x y:Operand} {ty:TypeId} [ArT P t len elem size] (hx:ev K x=some (.pointer (some ⟨g,o,none⟩)))
    (hy:ev K y=some (.int k (i:Int))) (hi:i<len) (ho:o+i*size=o'):Does P w0 gs K L (.indexAddr t x y) ty (.pointer (some ⟨g,o',none⟩)):=by
  intro a w hk _ oo hoo _
  subst ho
  have hu:∀ w,(underlying t).run P w=.ok (.array len elem) w:=fun w=>by simp[underlying,ArT.under (P:=P) (t:=t)]
  simp only[execOp,hoo,hk.eval hx,hk.eval hy,Instr.indexAt,asIntOf,Instr.sureAddr,Sem.run_bind,Sem.run_pure,Result.andThen_ok,hu]
  rw[if_pos ⟨by omega,by omega⟩]
  simp only[Sem.run_bind,ArT.size (P:=P) (t:=t),Result.andThen_ok,Sem.run_pure,Int.toNat_natCast,add_mk]
theorem does_indexSlice {t g o i len cap elem size o' : Nat} {k:IntKind} {x y:Operand} {ty:TypeId} [SlT P t elem size] (hx:ev K x=some (.slice (some ⟨g,o,none⟩) len cap))
    (hy:ev K y=some (.int k (i:Int))) (hi:i<len) (ho:o+i*size=o'):Does P w0 gs K L (.indexAddr t x y) ty (.pointer (some ⟨g,o',none⟩)):=by
  intro a w hk _ oo hoo _
  subst ho
  have hu:∀ w,(underlying t).run P w=.ok (.slice elem) w:=fun w=>by simp[underlying,SlT.under (P:=P) (t:=t)]
  simp only[execOp,hoo,hk.eval hx,hk.eval hy,Instr.indexAt,asIntOf,Sem.run_bind,Sem.run_pure,Result.andThen_ok,hu]
  rw[if_pos ⟨by omega,by omega⟩]
  simp only[Sem.run_bind,SlT.size (P:=P) (t:=t),Result.andThen_ok,Sem.run_pure,Int.toNat_natCast,add_mk]
theorem does_extract {x:Operand} {ty:TypeId} {i:Nat} {vs:List Value} {v:Value} (hx:ev K x=some (.tuple vs.toArray)) (hi:vs[i]?=some v):Does P w0 gs K L (.extract x i) ty v:=by
  intro a w hk _ o ho _
  have:vs.toArray[i]?=some v:=by simpa using hi
  simp only[execOp,ho,hk.eval hx,Instr.extract,this,Sem.run_bind,Sem.run_pure,Result.andThen_ok]
theorem does_not {x:Operand} {t ty:TypeId} {b:Bool} (hx:ev K x=some (.bool b)):Does P w0 gs K L (.unOp .not t x) ty (.bool !b):=by
  intro a w hk _ o ho _
  simp only[execOp,ho,hk.eval hx];rfl
theorem does_neg {x:Operand} {t ty:TypeId} {k:IntKind} {n:Int} (hx:ev K x=some (.int k n)):Does P w0 gs K L (.unOp .neg t x) ty (.int k (k.wrap (0 - n))):=by
  intro a w hk _ o ho _
  simp only[execOp,ho,hk.eval hx];rfl
theorem does_func {fn:Fn} {first captured:Array Operand} {fs cs:List Value} {ty:TypeId} (h1:evs K first.toList=some fs) (h2:evs K captured.toList=some cs) :
    Does P w0 gs K L (.makeFunc fn first captured) ty (.func fn fs.toArray cs.toArray):=by
  intro a w hk _ o ho _
  have e1:first.map a.eval=fs.toArray:=by have h:=hk.evals h1;apply Array.ext';simpa using h
  have e2:captured.map a.eval=cs.toArray:=by have h:=hk.evals h2;apply Array.ext';simpa using h
  simp only[execOp,ho,e1,e2];rfl
theorem eqGuard_int (op:BinOp) (t:TypeId) (x y:Operand) (k k' : IntKind) (a b:Int) (w:World):(eqGuard op t x y (.int k a) (.int k' b)).run P w=.ok () w:=by
  unfold eqGuard;split<;>rfl
theorem does_bin {op:BinOp} {x y:Operand} {t yt ty:TypeId} {k k' : IntKind} {m n:Int} {v:Value} (hx:ev K x=some (.int k m)) (hy:ev K y=some (.int k' n))
    (h:∀ w,(binOp op t (.int k m) (.int k' n)).run P w=.ok v w):Does P w0 gs K L (.binOp op t x y yt) ty v:=by
  intro a w hk _ o ho _
  simp only[execOp,ho,hk.eval hx,hk.eval hy,Sem.run_bind,eqGuard_int,Result.andThen_ok,h,Sem.run_pure]
theorem does_add {x y:Operand} {t yt ty:TypeId} {k:IntKind} {m n r:Int} (hx:ev K x=some (.int k m)) (hy:ev K y=some (.int k n)) (hr:k.wrap (m+n)=r) :
    Does P w0 gs K L (.binOp .add t x y yt) ty (.int k r):=by
  refine does_bin hx hy (fun w=>?_);subst hr;simp[binOp,Op.intArith]
theorem does_sub {x y:Operand} {t yt ty:TypeId} {k:IntKind} {m n r:Int} (hx:ev K x=some (.int k m)) (hy:ev K y=some (.int k n)) (hr:k.wrap (m - n)=r) :
    Does P w0 gs K L (.binOp .sub t x y yt) ty (.int k r):=by
  refine does_bin hx hy (fun w=>?_);subst hr;simp[binOp,Op.intArith]
theorem does_mul {x y:Operand} {t yt ty:TypeId} {k:IntKind} {m n r:Int} (hx:ev K x=some (.int k m)) (hy:ev K y=some (.int k n)) (hr:k.wrap (m*n)=r) :
    Does P w0 gs K L (.binOp .mul t x y yt) ty (.int k r):=by
  refine does_bin hx hy (fun w=>?_);subst hr;simp[binOp,Op.intArith]
theorem does_quo {x y:Operand} {t yt ty:TypeId} {k:IntKind} {m n r:Int} (hx:ev K x=some (.int k m)) (hy:ev K y=some (.int k n)) (hn:n≠0) (hr:k.wrap (m.tdiv n)=r) :
    Does P w0 gs K L (.binOp .quo t x y yt) ty (.int k r):=by
  refine does_bin hx hy (fun w=>?_);subst hr;simp[binOp,Op.intDiv,hn]
theorem does_rem {x y:Operand} {t yt ty:TypeId} {k:IntKind} {m n r:Int} (hx:ev K x=some (.int k m)) (hy:ev K y=some (.int k n)) (hn:n≠0) (hr:m.tmod n=r) :
    Does P w0 gs K L (.binOp .rem t x y yt) ty (.int k r):=by
  refine does_bin hx hy (fun w=>?_);subst hr;simp[binOp,Op.intDiv,hn]
theorem does_shl {x y:Operand} {t yt ty:TypeId} {k k' : IntKind} {m n r:Int} (hx:ev K x=some (.int k m)) (hy:ev K y=some (.int k' n)) (hn:0≤n) (hr:k.wrap (m*2 ^ (min n.toNat k.bits))=r) :
    Does P w0 gs K L (.binOp .shl t x y yt) ty (.int k r):=by
  refine does_bin hx hy (fun w=>?_);subst hr;simp[binOp,Op.shift,Int.not_lt.2 hn]
theorem does_shr {x y:Operand} {t yt ty:TypeId} {k k' : IntKind} {m n r:Int} (hx:ev K x=some (.int k m)) (hy:ev K y=some (.int k' n)) (hn:0≤n) (hr:m.fdiv (2 ^ (min n.toNat k.bits))=r) :
    Does P w0 gs K L (.binOp .shr t x y yt) ty (.int k r):=by
  refine does_bin hx hy (fun w=>?_);subst hr;simp[binOp,Op.shift,Int.not_lt.2 hn]
theorem does_and {x y:Operand} {t yt ty:TypeId} {k:IntKind} {m n r:Int} (hx:ev K x=some (.int k m)) (hy:ev K y=some (.int k n)) (hr:k.wrap ((BitVec.ofInt k.bits m &&& BitVec.ofInt k.bits n).toNat)=r) :
    Does P w0 gs K L (.binOp .and t x y yt) ty (.int k r):=by
  refine does_bin hx hy (fun w=>?_);subst hr;simp[binOp,Op.intBits]
theorem does_or {x y:Operand} {t yt ty:TypeId} {k:IntKind} {m n r:Int} (hx:ev K x=some (.int k m)) (hy:ev K y=some (.int k n)) (hr:k.wrap ((BitVec.ofInt k.bits m ||| BitVec.ofInt k.bits n).toNat)=r) :
    Does P w0 gs K L (.binOp .or t x y yt) ty (.int k r):=by
  refine does_bin hx hy (fun w=>?_);subst hr;simp[binOp,Op.intBits]
theorem does_eql {x y:Operand} {t yt ty:TypeId} {k:IntKind} {m n:Int} (hx:ev K x=some (.int k m)) (hy:ev K y=some (.int k n)) :
    Does P w0 gs K L (.binOp .eql t x y yt) ty (.bool (decide (m=n))):=by
  refine does_bin hx hy (fun w=>?_)
  have:(m == n)=decide (m=n):=by by_cases h:m=n<;>simp[h]
  rw[← this]
  cases k<;>rfl
theorem does_neq {x y:Operand} {t yt ty:TypeId} {k:IntKind} {m n:Int} (hx:ev K x=some (.int k m)) (hy:ev K y=some (.int k n)) :
    Does P w0 gs K L (.binOp .neq t x y yt) ty (.bool (decide (m≠n))):=by
  refine does_bin hx hy (fun w=>?_)
  have:(m != n)=decide (m≠n):=by by_cases h:m=n<;>simp[h]
  rw[← this]
  cases k<;>rfl
theorem does_lss {x y:Operand} {t yt ty:TypeId} {k:IntKind} {m n:Int} (hx:ev K x=some (.int k m)) (hy:ev K y=some (.int k n)) :
    Does P w0 gs K L (.binOp .lss t x y yt) ty (.bool (decide (m<n))):=by
  refine does_bin hx hy (fun w=>?_);simp[binOp,Op.intCmp]
theorem does_leq {x y:Operand} {t yt ty:TypeId} {k:IntKind} {m n:Int} (hx:ev K x=some (.int k m)) (hy:ev K y=some (.int k n)) :
    Does P w0 gs K L (.binOp .leq t x y yt) ty (.bool (decide (m≤n))):=by
  refine does_bin hx hy (fun w=>?_);simp[binOp,Op.intCmp]
theorem does_gtr {x y:Operand} {t yt ty:TypeId} {k:IntKind} {m n:Int} (hx:ev K x=some (.int k m)) (hy:ev K y=some (.int k n)) :
    Does P w0 gs K L (.binOp .gtr t x y yt) ty (.bool (decide (n<m))):=by
  refine does_bin hx hy (fun w=>?_);simp[binOp,Op.intCmp]
theorem does_geq {x y:Operand} {t yt ty:TypeId} {k:IntKind} {m n:Int} (hx:ev K x=some (.int k m)) (hy:ev K y=some (.int k n)) :
    Does P w0 gs K L (.binOp .geq t x y yt) ty (.bool (decide (n≤m))):=by
  refine does_bin hx hy (fun w=>?_);simp[binOp,Op.intCmp]
class InT (P:Program) (t:TypeId) (k:outParam IntKind):Prop where
  under:P.underlying t=some (.int k)
theorem does_conv {s t ty:TypeId} {x:Operand} {k k' : IntKind} {n r:Int} [InT P s k'] [InT P t k] (hx:ev K x=some (.int k' n)) (hr:k.wrap n=r):Does P w0 gs K L (.convert s t x) ty (.int k r):=by
  intro a w hk _ o ho _
  subst hr
  have h1:∀ w,(underlying s).run P w=.ok (.int k') w:=fun w=>by simp[underlying,InT.under (P:=P) (t:=s)]
  have h2:∀ w,(underlying t).run P w=.ok (.int k) w:=fun w=>by simp[underlying,InT.under (P:=P) (t:=t)]
  simp only[execOp,ho,hk.eval hx,convert,Sem.run_bind,h1,h2,Result.andThen_ok,Conv.intToInt,Sem.run_pure]
theorem does_lenS {x:Operand} {t ty elem size:Nat} {p:Option Addr} {n c:Nat} [SlT P t elem size] (hx:ev K x=some (.slice p n c)) :
    Does P w0 gs K L (.call { callee:=.builtin .len,args:=#[x],argTypes:=#[t] }) ty (.int .i64 (n:Int)):=by
  intro a w hk _ o ho _
  have hu:∀ w,(underlying t).run P w=.ok (.slice elem) w:=fun w=>by simp[underlying,SlT.under (P:=P) (t:=t)]
  obtain⟨dst,op,ty',pos,after,guard⟩:=o
  subst ho
  rw[execOp_builtin]
  simp only[builtin_len,List.map_toArray,List.map_cons,List.map_nil,hk.eval hx,Builtin.len_,Sem.run_bind]
  simp[hu,goInt]
end
section
variable {P:Program} {w0:World} {gs:List Nat} {K:List (Nat × Value)} {L:List Ent}
def Makes (P:Program) (w0:World) (gs:List Nat) (K:List (Nat × Value)) (L:List Ent) (op:Op) (ty:TypeId) (v:Nat→Value) (t:TypeId) (cs:List Value):Prop :=
  ∀ a w,Kn K a→Mr w0 gs L w→∀ o:Oper,o.op=op→o.type=ty→(execOp a.eval o).run P w=.ok (.value (v w.heap.size)) (w.alloc (.cells cs.toArray t))
def Stores (P:Program) (w0:World) (gs:List Nat) (K:List (Nat × Value)) (L:List Ent) (op:Op) (ty:TypeId) (L' : List Ent):Prop :=
  ∀ a w,Kn K a→Me w0 gs L w→∀ o:Oper,o.op=op→o.type=ty→∃ w',(execOp a.eval o).run P w=.ok .skip w'∧Me w0 gs L' w'
def cellsOf:Value→List Value
  | .agg cs=>cs.toList
  | v=>[v]
theorem cellsOf_eq (v:Value):v.cells=(cellsOf v).toArray:=by cases v<;>simp[Value.cells,cellsOf]
theorem makes_alloc {t ty:TypeId} {z:Value} {zs:List Value} [ZeT P t z] (hz:cellsOf z=zs) :
    Makes P w0 gs K L (.alloc t) ty (fun g=>.pointer (some ⟨g,0,none⟩)) t zs:=by
  intro a w hk _ o ho _
  subst hz
  simp only[execOp,ho,Instr.alloc,Sem.run_bind,ZeT.zero (P:=P) (t:=t),Result.andThen_ok,newVar,newRow,run_newObj,Sem.run_pure,cellsOf_eq]
  rfl
theorem makes_box {t ty:TypeId} {x:Operand} {v:Value} {cs:List Value} (hx:ev K x=some v) (hc:cellsOf v=cs) :
    Makes P w0 gs K L (.box t x) ty (fun g=>.pointer (some ⟨g,0,none⟩)) t cs:=by
  intro a w hk _ o ho _
  subst hc
  simp only[execOp,ho,hk.eval hx,Instr.box,Sem.run_bind,newVar,newRow,run_newObj,Result.andThen_ok,Sem.run_pure,cellsOf_eq]
  rfl
def over (cs:List Value) (off:Nat) (vs:List Value):List Value:=cs.take off++vs++cs.drop (off+vs.length)
theorem storeCells_run {t:TypeId} (g:Nat):∀ (vs:List Value) (off i:Nat) (cs:List Value) (w:World),off+i+vs.length≤cs.length→(∀ v∈vs,v.oneCell'=true)→w.heap[g]?=some (.cells cs.toArray t (0,0)) →
    ∃ w',(storeCells ⟨g,off,none⟩ vs i).run P w=.ok () w'∧w'.os=w.os∧w'.tape=w.tape∧w'.output=w.output∧w'.heap.size=w.heap.size∧(∀ k,k≠g→w'.heap[k]?=w.heap[k]?) ∧
      w'.heap[g]?=some (.cells (over cs (off+i) vs).toArray t (0,0))
  | [],off,i,cs,w,hl,_,hg=>⟨w,rfl,rfl,rfl,rfl,rfl,fun _ _=>rfl,by
      have:over cs (off+i) []=cs:=by simp[over]
      rw[this];exact hg⟩
  | v::r,off,i,cs,w,hl,hv,hg=>by
    simp only[List.length_cons] at hl
    have hcell:w.cell? ⟨g,off+i,none⟩=some cs[off+i]:=by
      rw[cell_of_row w g (off+i) cs.toArray t (0,0) hg];simp
    have hfr:w.frozen? ⟨g,off+i,none⟩=false:=frozen_of_row w g (off+i) cs.toArray t hg
    have hst:(store ((⟨g,off,none⟩ : Addr).add i) v).run P w=.ok () (w.setCell ⟨g,off+i,none⟩ v):=by
      rw[add_mk,run_store P w _ v .plain (hv v (by simp)),hcell,hfr];rfl
    have hg' : (w.setCell ⟨g,off+i,none⟩ v).heap[g]?=some (.cells (cs.set (off+i) v).toArray t (0,0)):=by
      have:=heap_setCell_same w g (off+i) cs.toArray t v hg
      rw[this];simp
    obtain⟨w',h1,h2,h3,h4,h5,h6,h7⟩:=storeCells_run g r off (i+1) (cs.set (off+i) v) (w.setCell ⟨g,off+i,none⟩ v) (by simp;omega) (fun u hu=>hv u (by simp[hu])) hg'
    refine⟨w',?_,h2,h3,h4,h5.trans (by simp),fun k hk=>(h6 k hk).trans (heap_setCell_other w _ k v hk),?_⟩
    · unfold storeCells
      rw[Sem.run_bind,hst]
      exact h1
    · rw[h7]
      congr 2
      apply congrArg
      unfold over
      rw[show off+(i+1)=off+i+1 by omega]
      simp only[List.length_cons]
      have hlt:off+i<cs.length:=by omega
      have h1:(cs.set (off+i) v).take (off+i+1)=cs.take (off+i)++[v]:=by
        rw[List.take_succ_eq_append_getElem (by simpa using hlt)]
        simp[List.take_set_of_le]
      have h2:(cs.set (off+i) v).drop (off+i+1+r.length)=cs.drop (off+i+(r.length+1)):=by
        rw[List.drop_set_of_lt (by omega),show off+i+1+r.length=off+i+(r.length+1) by omega]
      rw[h1,h2]
      simp
end
end Sx
end Go.Proofs.YtiiacjladnljhaaGreatDoor
