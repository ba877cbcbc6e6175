/- Part 1 of the proof. -/
import Derived.WalkKit
import Derived.Deep.Draws
import Derived.Laws.Rows
import Derived.Lib.Hide
import Derived.Lib.AppendZeros
import Derived.Lib.AppendZerosOnto
import Derived.Lib.Walk
import Derived.Lib.SliceRun
import Derived.OwnWalk
import Derived.Test.YteibfbjpkjkejaaGreatDoorProg
import Derived.Shelf.Small.Bits
import Derived.Shelf.Strconv.Itoa0
import Derived.Shelf.Bits.Mul64
set_option linter.unusedSimpArgs false
set_option linter.unusedVariables false
set_option maxHeartbeats 8000000
namespace Go.Proofs.YteibfbjpkjkejaaGreatDoor
section
open Go Go.RowKit
namespace Sx
def lk:List (Nat × Value)→Nat→Option Value
 | [],_=>none
 | (k,v)::r,t=>bif Nat.beq k t then some v else lk r t
def ev (K:List (Nat × Value)):Operand→Option Value
 | .tmp t=>lk K t
 | .const v=>some v
 | .global g=>some (.pointer (some ⟨g,0,none⟩))
 | .func f=>some (.func (.func f) #[] #[])
def evs (K:List (Nat × Value)):List Operand→Option (List Value)
 | []=>some []
 | x::r=>match ev K x with
  | some v=>match evs K r with
   | some vs=>some (v::vs)
   | none=>none
  | none=>none
def Kn (K:List (Nat × Value)) (a:Act):Prop:=∀ t v,lk K t=some v→a.tmps[t]?=some v
theorem Kn.eval {K:List (Nat × Value)} {a:Act} (h:Kn K a) {x:Operand} {v:Value} (hx:ev K x=some v):a.eval x=v:=by
 cases x with
 | tmp t =>
  have:=h t v hx;simp only[Act.eval,Array.getD_eq_getD_getElem?,this];rfl
 | const c=>exact Option.some.inj hx
 | global g=>exact Option.some.inj hx
 | func f=>exact Option.some.inj hx
theorem Kn.evals {K:List (Nat × Value)} {a:Act} (h:Kn K a):∀ {xs:List Operand} {vs:List Value},evs K xs=some vs→xs.map a.eval=vs
 | [],vs,hx=>by cases hx;rfl
 | x::r,vs,hx=>by
  unfold evs at hx;cases h1:ev K x with
  | none=>rw[h1] at hx;cases hx
  | some v =>
   cases h2:evs K r with
   | none=>rw[h1,h2] at hx;cases hx
   | some us =>
    rw[h1,h2] at hx;cases hx;simp only[List.map_cons,h.eval h1,h.evals h2]
theorem Kn.put {K:List (Nat × Value)} {a:Act} (h:Kn K a) {d:Nat} (hd:d<a.tmps.size) (v:Value):Kn ((d,v)::K) (a.put (some d) v):=by
 intro t u ht;unfold lk at ht;simp only[Act.put]
 by_cases e:d=t
 ·subst e;rw[Nat.beq_refl] at ht;simp only[cond_true] at ht;cases ht;simp[hd]
 ·have:Nat.beq d t=false:=by
   cases hb:Nat.beq d t with
   | false=>rfl
   | true=>exact absurd (Nat.eq_of_beq_eq_true hb) e
  rw[this] at ht;rw[Array.getElem?_setIfInBounds_ne e];exact h t u ht
theorem zP (a:Act) (d:Option Tmp) (v:Value):(a.put d v).tmps.size=a.tmps.size:=by
 cases d<;>simp[Act.put]
theorem put_defers (a:Act) (d:Option Tmp) (v:Value):(a.put d v).defers=a.defers:=by
 cases d<;>rfl
class Kd where
 map:Bool
@[reducible] instance cellsK:Kd:=⟨false⟩
@[reducible] def mapK:Kd:=⟨true⟩
structure Ent where
 g:Nat
 t:TypeId
 cs:List Value
 [k:Kd]
def okK (b:Bool) (g:Nat) (t:TypeId) (cs:List Value) (w:World):Prop:=match b with
 | false=>∃ t' fr,w.heap[g]?=some (.cells cs.toArray t' fr)∧(t≠0→t'=t∧fr=(0,0))
 | true=>∃ es clk,w.heap[g]?=some (.map es clk)∧cs=es.toList.flatMap fun x=>[x.key,x.val]
def Ent.ok (e:Ent) (w:World):Prop:=okK e.k.map e.g e.t e.cs w
theorem Ent.ok.of {g:Nat} {t:TypeId} {cs:List Value} {w:World} (h:w.heap[g]?=some (.cells cs.toArray t (0,0))):Ent.ok ⟨g,t,cs⟩ w:=⟨_,_,h,fun _=>⟨rfl,rfl⟩⟩
theorem Ent.ok.row {g:Nat} {t:TypeId} {cs:List Value} {w:World} (h:Ent.ok ⟨g,t,cs⟩ w) (ht:t≠0):w.heap[g]?=some (.cells cs.toArray t (0,0)):=by
 obtain⟨t',fr,h1,h2⟩:=h;obtain⟨rfl,rfl⟩:=h2 ht;exact h1
theorem okK.keep {b:Bool} {g:Nat} {t:TypeId} {cs:List Value} {w w' : World} (h:okK b g t cs w) (he:w'.heap[g]?=w.heap[g]?):okK b g t cs w':=by
 cases b with
 | false=>obtain⟨t',fr,h1,h2⟩:=h;exact⟨t',fr,he.trans h1,h2⟩
 | true=>obtain⟨es,clk,h1,h2⟩:=h;exact⟨es,clk,he.trans h1,h2⟩
theorem Ent.ok.keep {e:Ent} {w w' : World} (h:e.ok w) (he:w'.heap[e.g]?=w.heap[e.g]?):e.ok w':=okK.keep h he
structure Mod (gs:List Nat) (w w' : World):Prop where
 os:w'.os=w.os
 tape:w'.tape=w.tape
 output:w'.output=w.output
 size:w.heap.size≤w'.heap.size
 block:∀ k,k<w.heap.size→k ∉ gs→w'.heap[k]?=w.heap[k]?
theorem Mod.refl (gs:List Nat) (w:World):Mod gs w w:=⟨rfl,rfl,rfl,Nat.le_refl _,fun _ _ _=>rfl⟩
theorem Mod.trans {gs:List Nat} {a b c:World} (h:Mod gs a b) (k:Mod gs b c):Mod gs a c :=
 ⟨k.os.trans h.os,k.tape.trans h.tape,k.output.trans h.output,Nat.le_trans h.size k.size,fun i hi hn=>(k.block i (Nat.lt_of_lt_of_le hi h.size) hn).trans (h.block i hi hn)⟩
theorem Mod.of_below {w w' : World} (h:Below w.heap.size w w') (gs:List Nat):Mod gs w w':=⟨h.os,h.tape,h.output,h.size,fun k hk _=>h.block k hk⟩
theorem Mod.below {w w' : World} (h:Mod [] w w'):Below w.heap.size w w':=⟨h.os,h.tape,h.output,h.size,fun k hk=>h.block k hk (by simp)⟩
structure Me (w0:World) (gs:List Nat) (L:List Ent) (w:World):Prop where
 mod:Mod gs w0 w
 ok:∀ e∈L,e.ok w
 mine:∀ e∈L,w0.heap.size≤e.g∨e.g∈gs
 nodup:(L.map Ent.g).Nodup
structure Mr (w0:World) (gs:List Nat) (L:List Ent) (w:World):Prop where
 mod:Mod gs w0 w
 ok:∀ e∈L,e.ok w
theorem Me.mr {w0 w:World} {gs:List Nat} {L:List Ent} (h:Me w0 gs L w):Mr w0 gs L w:=⟨h.mod,h.ok⟩
theorem okK.lt {b:Bool} {g:Nat} {t:TypeId} {cs:List Value} {w:World} (h:okK b g t cs w):g<w.heap.size:=by
 rcases Nat.lt_or_ge g w.heap.size with hlt|hge
 ·exact hlt
 ·exfalso;cases b with
  | false=>obtain⟨t,fr,h1,_⟩:=h;rw[Array.getElem?_eq_none hge] at h1;cases h1
  | true=>obtain⟨t,fr,h1,_⟩:=h;rw[Array.getElem?_eq_none hge] at h1;cases h1
theorem Ent.ok.lt {e:Ent} {w:World} (h:e.ok w):e.g<w.heap.size:=okK.lt h
theorem Me.refl (w0:World) (gs:List Nat):Me w0 gs [] w0:=⟨.refl _ _,by simp,by simp,by simp⟩
theorem Me.below {w0 w w' : World} {gs:List Nat} {L:List Ent} (h:Me w0 gs L w) (hb:Below w.heap.size w w'):Me w0 gs L w' :=
 ⟨h.mod.trans (.of_below hb gs),fun e he=>(h.ok e he).keep (hb.block e.g (h.ok e he).lt),h.mine,h.nodup⟩
theorem Me.alloc {w0 w:World} {gs:List Nat} {L:List Ent} (h:Me w0 gs L w) (t:TypeId) (cs:List Value):Me w0 gs (⟨w.heap.size,t,cs⟩::L) (w.alloc (.cells cs.toArray t)):=by
 have h':=h.below ((Below.refl w.heap.size w).alloc (Nat.le_refl _) (.cells cs.toArray t));refine⟨h'.mod,?_,?_,?_⟩
 ·intro e he
  rcases List.mem_cons.1 he with rfl|he
  ·exact .of (heap_alloc_new w _)
  ·exact h'.ok e he
 ·intro e he
  rcases List.mem_cons.1 he with rfl|he
  ·exact .inl h.mod.size
  ·exact h.mine e he
 ·rw[List.map_cons,List.nodup_cons];refine⟨fun hm=>?_,h.nodup⟩;obtain⟨e,he,hg⟩:=List.mem_map.1 hm;have:=(h.ok e he).lt;simp only at hg;omega
structure iT (B:Nat) (N:List Ent) (w:World):Prop where
 ok:∀ e∈N,e.ok w
 new:∀ e∈N,B≤e.g
 nodup:(N.map Ent.g).Nodup
theorem iT.nil (B:Nat) (w:World):iT B [] w:=⟨by simp,by simp,by simp⟩
theorem Me.add {w0 w w' : World} {gs:List Nat} {L N:List Ent} (h:Me w0 gs L w) (hb:Below w.heap.size w w') (hn:iT w.heap.size N w'):Me w0 gs (N++L) w':=by
 have h':=h.below hb;refine⟨h'.mod,fun e he=>?_,fun e he=>?_,?_⟩
 ·rcases List.mem_append.1 he with he|he
  ·exact hn.ok e he
  ·exact h'.ok e he
 ·rcases List.mem_append.1 he with he|he
  ·exact .inl (Nat.le_trans h.mod.size (hn.new e he))
  ·exact h.mine e he
 ·rw[List.map_append,List.nodup_append];refine⟨hn.nodup,h.nodup,fun x hx y hy e=>?_⟩;obtain⟨e1,he1,rfl⟩:=List.mem_map.1 hx;obtain⟨e2,he2,rfl⟩:=List.mem_map.1 hy;have:=hn.new e1 he1;have:=(h.ok e2 he2).lt;omega
theorem Me.sub {w0 w:World} {gs:List Nat} {L L' : List Ent} (h:Me w0 gs L w) (hs:L'.Sublist L):Me w0 gs L' w :=
 ⟨h.mod,fun e he=>h.ok e (hs.subset he),fun e he=>h.mine e (hs.subset he),h.nodup.sublist (hs.map _)⟩
inductive Hs:List Ent→Nat→TypeId→List Value→Prop
 | here {L:List Ent} {g:Nat} {t:TypeId} {cs:List Value}:Hs (⟨g,t,cs⟩::L) g t cs
 | there {L:List Ent} {g:Nat} {t:TypeId} {cs:List Value} {e:Ent}:Hs L g t cs→Hs (e::L) g t cs
theorem Hs.a {L:List Ent} {g:Nat} {t:TypeId} {cs:List Value} (h:Hs L g t cs:=by repeat (first|exact Hs.here|apply Hs.there)):Hs L g t cs:=h
theorem Hs.mem {L:List Ent} {g:Nat} {t:TypeId} {cs:List Value} (h:Hs L g t cs):(⟨g,t,cs⟩ : Ent)∈L:=by
 induction h with
 | here=>simp
 | there _ ih=>exact List.mem_cons_of_mem _ ih
inductive Rp:List Ent→Nat→TypeId→List Value→List Value→List Ent→Prop
 | here {L:List Ent} {g:Nat} {t:TypeId} {cs cs' : List Value}:Rp (⟨g,t,cs⟩::L) g t cs cs' (⟨g,t,cs'⟩::L)
 | there {L L' : List Ent} {g:Nat} {t:TypeId} {cs cs' : List Value} {e:Ent}:Rp L g t cs cs' L'→Rp (e::L) g t cs cs' (e::L')
theorem Rp.mem {L L' : List Ent} {g:Nat} {t:TypeId} {cs cs' : List Value} (h:Rp L g t cs cs' L'):(⟨g,t,cs⟩ : Ent)∈L:=by
 induction h with
 | here=>simp
 | there _ ih=>exact List.mem_cons_of_mem _ ih
theorem Rp.gs {L L' : List Ent} {g:Nat} {t:TypeId} {cs cs' : List Value} (h:Rp L g t cs cs' L'):L'.map Ent.g=L.map Ent.g:=by
 induction h with
 | here=>rfl
 | there _ ih=>simp[ih]
theorem Rp.at {L L' : List Ent} {g:Nat} {t:TypeId} {cs cs' : List Value} (h:Rp L g t cs cs' L'):(L.map Ent.g).Nodup→∀ e∈L',e=⟨g,t,cs'⟩∨(e∈L∧e.g≠g):=by
 induction h with
 | here =>
  intro hn e he
  rcases List.mem_cons.1 he with rfl|he
  ·exact .inl rfl
  ·refine .inr ⟨List.mem_cons_of_mem _ he,fun hg=>?_⟩;rw[List.map_cons,List.nodup_cons] at hn;exact hn.1 (List.mem_map.2 ⟨e,he,hg⟩)
 | there hr ih =>
  intro hn e he;rw[List.map_cons,List.nodup_cons] at hn
  rcases List.mem_cons.1 he with rfl|he
  ·refine .inr ⟨by simp,fun hg=>?_⟩;exact hn.1 (List.mem_map.2 ⟨_,hr.mem,hg.symm⟩)
  ·rcases ih hn.2 e he with h1|h1
   ·exact .inl h1
   ·exact .inr ⟨List.mem_cons_of_mem _ h1.1,h1.2⟩
theorem Me.write {w0 w w' : World} {gs:List Nat} {L L' : List Ent} {g:Nat} {t:TypeId} {cs cs' : List Value} (h:Me w0 gs L w) (hr:Rp L g t cs cs' L')
  (hos:w'.os=w.os) (htape:w'.tape=w.tape) (hout:w'.output=w.output) (hsz:w.heap.size≤w'.heap.size)
  (hne:∀ k,k<w.heap.size→k≠g→w'.heap[k]?=w.heap[k]?) (hg:w'.heap[g]?=some (.cells cs'.toArray t (0,0))):Me w0 gs L' w':=by
 have hm:=h.mine _ hr.mem;refine⟨⟨hos.trans h.mod.os,htape.trans h.mod.tape,hout.trans h.mod.output,Nat.le_trans h.mod.size hsz,fun k hk hn=>?_⟩,fun e he=>?_,fun e he=>?_,?_⟩
 ·refine (hne k (Nat.lt_of_lt_of_le hk h.mod.size) (fun e=>?_)).trans (h.mod.block k hk hn);subst e
  rcases hm with hm|hm
  ·simp only at hm;omega
  ·exact hn hm
 ·rcases hr.at h.nodup e he with rfl|⟨he,hne'⟩
  ·exact .of hg
  ·exact (h.ok e he).keep (hne e.g (h.ok e he).lt hne')
 ·rcases hr.at h.nodup e he with rfl|⟨he,_⟩
  ·exact hm
  ·exact h.mine e he
 ·rw[hr.gs];exact h.nodup
def Seg (w:World) (b off:Nat) (cs:List Value):Prop:=∀ i v,cs[i]?=some v→w.cell? ⟨b,off+i,none⟩=some v
theorem oF {w:World} {p:Addr} {v:Value} (h:w.cell? p=some v):p.block<w.heap.size:=by
 rcases Nat.lt_or_ge p.block w.heap.size with h1|h1
 ·exact h1
 ·unfold World.cell? at h;rw[Array.getElem?_eq_none h1] at h;cases h
theorem Seg.mod {w w' : World} {b off:Nat} {cs:List Value} {gs:List Nat} (h:Seg w b off cs) (hm:Mod gs w w') (hb:b ∉ gs):Seg w' b off cs:=by
 intro i v hv;have h1:=h i v hv;have h2:w'.heap[b]?=w.heap[b]?:=hm.block b (oF h1) hb;rw[← h1];exact World.cell?_of_block (w:=w) h2
theorem Ent.ok.cell {g:Nat} {t:TypeId} {cs:List Value} {w:World} (h:Ent.ok ⟨g,t,cs⟩ w) (i:Nat):w.cell? ⟨g,i,none⟩=cs[i]?:=by
 obtain⟨t,fr,h1,_⟩:=h;rw[cell_of_row w g i cs.toArray t fr h1];simp
theorem Ent.ok.seg {g:Nat} {t:TypeId} {cs:List Value} {w:World} (h:Ent.ok ⟨g,t,cs⟩ w) (off:Nat):Seg w g off (cs.drop off):=by
 intro i v hv;rw[h.cell,← hv,List.getElem?_drop]
end Sx
end
section
def wd (i n:Nat):Nat :=
 match i with
 | 0=>n%18446744073709551616
 | 1=>n / 18446744073709551616%18446744073709551616
 | 2=>n / 340282366920938463463374607431768211456%18446744073709551616
 | _=>n / 6277101735386680763835789423207666416102355444464034512896%18446744073709551616
def tc (a b c d:Nat):Nat :=
 a+18446744073709551616*b+340282366920938463463374607431768211456*c+6277101735386680763835789423207666416102355444464034512896*d
def zd:Nat:=115792089237316195423570985008687907853269984665640564039457584007913129639936
theorem yh (i n:Nat):wd i n<18446744073709551616:=by
 unfold wd;split<;>exact Nat.mod_lt _ (by omega)
theorem ac7 (i n:Nat):wd i n≤18446744073709551615:=by have:=yh i n;omega
theorem eW {a b c d:Nat} (ha:a<18446744073709551616) (hb:b<18446744073709551616) (hc:c<18446744073709551616) (hd:d<18446744073709551616) :
  wd 0 (tc a b c d)=a∧wd 1 (tc a b c d)=b∧wd 2 (tc a b c d)=c∧wd 3 (tc a b c d)=d:=by
 simp only[wd,tc];omega
theorem vL {n:Nat} (h:n<zd):tc (wd 0 n) (wd 1 n) (wd 2 n) (wd 3 n)=n:=by
 simp only[wd,tc,zd] at *;omega
theorem lH {a b c d:Nat} (ha:a<18446744073709551616) (hb:b<18446744073709551616) (hc:c<18446744073709551616) (hd:d<18446744073709551616) :
  tc a b c d<zd:=by simp only[tc,zd];omega
theorem aar {m n:Nat} (hm:m<zd) (hn:n<zd) (h0:wd 0 m=wd 0 n) (h1:wd 1 m=wd 1 n) (h2:wd 2 m=wd 2 n) (h3:wd 3 m=wd 3 n):m=n:=by
 rw[← vL hm,← vL hn,h0,h1,h2,h3]
abbrev zc (n:Nat):List Value:=[.int .u64 ((wd 0 n:Nat):Int),.int .u64 ((wd 1 n:Nat):Int),.int .u64 ((wd 2 n:Nat):Int),.int .u64 ((wd 3 n:Nat):Int)]
abbrev zj (n:Nat):Value:=.agg #[.int .u64 ((wd 0 n:Nat):Int),.int .u64 ((wd 1 n:Nat):Int),.int .u64 ((wd 2 n:Nat):Int),.int .u64 ((wd 3 n:Nat):Int)]
theorem so {a b c d:Nat} (ha:a<18446744073709551616) (hb:b<18446744073709551616) (hc:c<18446744073709551616) (hd:d<18446744073709551616) :
  Value.agg #[.int .u64 (a:Int),.int .u64 (b:Int),.int .u64 (c:Int),.int .u64 (d:Int)]=zj (tc a b c d):=by
 obtain⟨e0,e1,e2,e3⟩:=eW ha hb hc hd;simp only[zj,e0,e1,e2,e3]
theorem eD (a b:Nat) (ha:a<zd) (hb:b<zd) (s0 s1 s2 s3 c0 c1 c2 c3:Nat)
  (e0:s0=(wd 0 a+wd 0 b)%18446744073709551616) (f0:c0=(wd 0 a+wd 0 b) / 18446744073709551616)
  (e1:s1=(wd 1 a+wd 1 b+c0)%18446744073709551616) (f1:c1=(wd 1 a+wd 1 b+c0) / 18446744073709551616)
  (e2:s2=(wd 2 a+wd 2 b+c1)%18446744073709551616) (f2:c2=(wd 2 a+wd 2 b+c1) / 18446744073709551616)
  (e3:s3=(wd 3 a+wd 3 b+c2)%18446744073709551616) (f3:c3=(wd 3 a+wd 3 b+c2) / 18446744073709551616) :
  tc s0 s1 s2 s3=(a+b)%zd∧c3=(a+b) / zd:=by
 have h1:=vL ha;have h2:=vL hb;have:=yh 0 a;have:=yh 1 a;have:=yh 2 a;have:=yh 3 a;have:=yh 0 b;have:=yh 1 b;have:=yh 2 b;have:=yh 3 b;generalize wd 0 a=a0 at *;generalize wd 1 a=a1 at *;generalize wd 2 a=a2 at *;generalize wd 3 a=a3 at *;generalize wd 0 b=b0 at *;generalize wd 1 b=b1 at *;generalize wd 2 b=b2 at *;generalize wd 3 b=b3 at *;simp only[tc,zd] at *;omega
end
section
namespace Sha
def M:Nat:=4294967296
def rotr (n x:Nat):Nat:=(x / 2 ^ n) ||| (x*2 ^ (32 - n)%4294967296)
def sig0 (x:Nat):Nat:=rotr 7 x ^^^ rotr 18 x ^^^ (x / 8)
def sig1 (x:Nat):Nat:=rotr 17 x ^^^ rotr 19 x ^^^ (x / 1024)
def Sig0 (x:Nat):Nat:=rotr 2 x ^^^ rotr 13 x ^^^ rotr 22 x
def Sig1 (x:Nat):Nat:=rotr 6 x ^^^ rotr 11 x ^^^ rotr 25 x
def ch (e f g:Nat):Nat:=g ^^^ (e &&& (f ^^^ g))
def maj (a b c:Nat):Nat:=(a &&& b) ^^^ (a &&& c) ^^^ (b &&& c)
def K:List Nat:=[
 0x428a2f98,0x71374491,0xb5c0fbcf,0xe9b5dba5,0x3956c25b,0x59f111f1,0x923f82a4,0xab1c5ed5,
 0xd807aa98,0x12835b01,0x243185be,0x550c7dc3,0x72be5d74,0x80deb1fe,0x9bdc06a7,0xc19bf174,
 0xe49b69c1,0xefbe4786,0x0fc19dc6,0x240ca1cc,0x2de92c6f,0x4a7484aa,0x5cb0a9dc,0x76f988da,
 0x983e5152,0xa831c66d,0xb00327c8,0xbf597fc7,0xc6e00bf3,0xd5a79147,0x06ca6351,0x14292967,
 0x27b70a85,0x2e1b2138,0x4d2c6dfc,0x53380d13,0x650a7354,0x766a0abb,0x81c2c92e,0x92722c85,
 0xa2bfe8a1,0xa81a664b,0xc24b8b70,0xc76c51a3,0xd192e819,0xd6990624,0xf40e3585,0x106aa070,
 0x19a4c116,0x1e376c08,0x2748774c,0x34b0bcb5,0x391c0cb3,0x4ed8aa4a,0x5b9cca4f,0x682e6ff3,
 0x748f82ee,0x78a5636f,0x84c87814,0x8cc70208,0x90befffa,0xa4506ceb,0xbef9a3f7,0xc67178f2]
def H0:List Nat:=[0x6a09e667,0xbb67ae85,0x3c6ef372,0xa54ff53a,0x510e527f,0x9b05688c,0x1f83d9ab,0x5be0cd19]
def w16 (b:List Nat) (i:Nat):Nat:=(b.getD (4*i) 0)*16777216+(b.getD (4*i+1) 0)*65536+(b.getD (4*i+2) 0)*256+b.getD (4*i+3) 0
def wnext (w:List Nat) (i:Nat):Nat :=
 (w.getD (i - 16) 0+w.getD (i - 7) 0+sig0 (w.getD (i - 15) 0)+sig1 (w.getD (i - 2) 0))%4294967296
def words (b:List Nat):Nat→List Nat
 | 0=>[]
 | i+1=>words b i++[if i<16 then w16 b i else wnext (words b i) i]
def rnd (s:List Nat) (k w:Nat):List Nat :=
 match s with
 | [a,b,c,d,e,f,g,h] =>
  let t:=(h+Sig1 e+ch e f g+k+w)%4294967296
  [(t+Sig0 a+maj a b c)%4294967296,a,b,c,(d+t)%4294967296,e,f,g]
 | _=>s
def rnds (s w:List Nat):Nat→List Nat
 | 0=>s
 | i+1=>rnd (rnds s w i) (K.getD i 0) (w.getD i 0)
def addW (s t:List Nat):List Nat:=List.zipWith (fun x y=>(x+y)%4294967296) s t
def take (s b:List Nat):List Nat:=addW (rnds s (words b 64) 64) s
def takes (s b:List Nat):Nat→List Nat
 | 0=>s
 | n+1=>take (takes s b n) ((b.drop (64*n)).take 64)
def be8 (n:Nat):List Nat:=[n / 72057594037927936%256,n / 281474976710656%256,n / 1099511627776%256,n / 4294967296%256,n / 16777216%256,n / 65536%256,n / 256%256,n%256]
def pad (n:Nat):Nat:=(119 - n%64)%64
def padded (m:List Nat):List Nat:=m++128::List.replicate (pad m.length) 0++be8 (8*m.length%18446744073709551616)
def outs (s:List Nat):List Nat:=s.flatMap fun x=>[x / 16777216%256,x / 65536%256,x / 256%256,x%256]
def sum (m:List Nat):List Nat:=outs (takes H0 (padded m) ((padded m).length / 64))
end Sha
end
section
open Go.RowKit
def Blk (w:World) (g:Nat) (t:TypeId) (cs:List Value):Prop:=w.heap[g]?=some (.cells cs.toArray t (0,0))
section
variable {w w' : World} {g:Nat} {t:TypeId} {cs:List Value}
theorem Blk.lt (h:Blk w g t cs):g<w.heap.size:=by
 rcases Nat.lt_or_ge g w.heap.size with hlt|hge
 ·exact hlt
 ·unfold Blk at h;rw[Array.getElem?_eq_none hge] at h;cases h
theorem Blk.cell (h:Blk w g t cs) (i:Nat):w.cell? ⟨g,i,none⟩=cs[i]?:=by
 rw[cell_of_row w g i cs.toArray t (0,0) h];simp
theorem Blk.cell_at (h:Blk w g t cs) {i:Nat} {v:Value} (hv:cs[i]?=some v):w.cell? ⟨g,i,none⟩=some v:=(h.cell i).trans hv
theorem Blk.frozen (h:Blk w g t cs) (i:Nat):w.frozen? ⟨g,i,none⟩=false:=by
 unfold Blk at h;simp[World.frozen?,h]
theorem Blk.new (w:World) (t:TypeId) (cs:List Value):Blk (w.alloc (.cells cs.toArray t)) w.heap.size t cs:=heap_alloc_new w _
theorem Blk.new' {t:TypeId} {cs:List Value} (h:w.heap.size=g):Blk (w.alloc (.cells cs.toArray t)) g t cs:=h ▸ Blk.new w t cs
theorem Blk.drew (h:Blk w g t cs):Blk w.drew g t cs:=h
theorem Blk.drewN (h:Blk w g t cs) (n:Nat):Blk (w.drewN n) g t cs:=h
theorem Blk.alloc (h:Blk w g t cs) (o:Obj):Blk (w.alloc o) g t cs:=(Below.heap_alloc w o g h.lt).trans h
theorem Blk.set_ (h:Blk w g t cs) (i:Nat) (u:Value):Blk (w.setCell ⟨g,i,none⟩ u) g t (cs.set i u):=by
 unfold Blk at h ⊢;simp[World.setCell,Array.getElem?_modify,h]
theorem Blk.put4 {a b c d:Value} (h:Blk w g t [a,b,c,d]) (u0 u1 u2 u3:Value) :
  Blk ((((w.setCell ⟨g,0,none⟩ u0).setCell ⟨g,1,none⟩ u1).setCell ⟨g,2,none⟩ u2).setCell ⟨g,3,none⟩ u3) g t [u0,u1,u2,u3]:=(((h.set_ 0 u0).set_ 1 u1).set_ 2 u2).set_ 3 u3
theorem Blk.far (h:Blk w g t cs) {p:Addr} (hp:g≠p.block) (u:Value):Blk (w.setCell p u) g t cs:=(Below.heap_setCell w p u g hp).trans h
theorem Blk.below {B:Nat} (h:Blk w g t cs) (hb:Below B w w') (hg:g<B):Blk w' g t cs:=(hb.block g hg).trans h
theorem Blk.grown {row:Option Nat} (h:Blk w g t cs) (hb:w.grownBy w' row) (hg:some g≠row):Blk w' g t cs:=(hb.block g h.lt hg).trans h
end
theorem uA {B:Nat} {W w1:World} (hb:Below B W w1):(∀ b o,b<B→w1.cell? ⟨b,o,none⟩=W.cell? ⟨b,o,none⟩)∧(∀ b o,b<B→w1.frozen? ⟨b,o,none⟩=W.frozen? ⟨b,o,none⟩) :=
 ⟨fun b o h=>hb.cell (p:=⟨b,o,none⟩) h,fun b o h=>hb.frozen (p:=⟨b,o,none⟩) h⟩
abbrev Ext (w w' : World):Prop:=Below w.heap.size w w'
theorem Ext.rfl' (w:World):Ext w w:=Below.refl _ _
theorem Ext.trans' {a b c:World} (h:Ext a b) (k:Ext b c):Ext a c:=h.trans (k.mono h.size)
theorem Ext.alloc' {a b:World} (h:Ext a b) (o:Obj):Ext a (b.alloc o):=h.alloc h.size o
theorem Below.drewN' {B:Nat} {a w:World} (h:Below B a w) (n:Nat):Below B a (w.drewN n):=⟨h.os,h.tape,h.output,h.size,h.block⟩
end
end Go.Proofs.YteibfbjpkjkejaaGreatDoor
namespace Go.Proofs.YteibfbjpkjkejaaGreatDoor
open Go.RowKit
set_option maxRecDepth 100000 in
theorem qu (n:Nat) (h0:0<n) (hn:n≤1099511627776) (w:World) :
  Calls Tryz.prog 169 #[.slice none 0 0,.int .i64 (n:Int)] w fun e w'=>∃ v,e=.returned v∧w'.ownsRow w.heap.size 22 1 v 0 []∧Below w.heap.size w w':=by
 have hinfo:(Tryz.prog.info? 22).map (fun i=>(i.zero,i.size,i.bytes))=some (some (.int .u64 0),1,8):=by kernel_rfl
 obtain⟨i0,hi,hz0,hz1,hz2⟩:=info_parts hinfo;have hr:=fun ty=>Lib.run_append_nil_zeros (P:=Tryz.prog) w 185 3 ty 22 i0 (.int .u64 0) .i64 .i64 Tryz.underlying185 Tryz.underlying3 hi hz0 n h0 (by omega) (by omega) (by rw[hz2];omega);have hge:=grownCap_ge w n 0 22;have hml:=grownCap_le_maxLen w n 0 22 (by simp[maxLen];omega);generalize grownCap w n 0 22=G at *;have hG63:G≤9223372036854775807:=by unfold maxLen at hml;omega
 have HM:=Lib.hid hml;clear hml
 go_enter Tryz.func169,Tryz.ntmps169
 go_wp2_with (at_builtin;refine Lib.wpList_append_run _ rfl _ _ _ _ rfl _ _ rfl rfl _ _ (hr _) ?_)
 go_ret
 refine⟨_,rfl,?_,(Below.refl _ _).drew.alloc (Nat.le_refl _) _⟩;refine⟨rfl,.inr ⟨w.heap.size,_,_,rfl,Nat.le_refl _,heap_alloc_new w.drew _,by omega,HM.out,?_,by simp⟩⟩;rw[Array.size_append,size_zeroCells,size_zeroCells];show n*1+(G - n)*1=G*1;omega
end Go.Proofs.YteibfbjpkjkejaaGreatDoor
namespace Go.Proofs
open Go.Shelf
def Tryz.lays134_ren:Go.Shelf.Ren:=⟨fun|134=>147|129=>115|n=>n,fun|53=>22|3=>3|4=>4|46=>155|5=>5|9=>9|n=>n,fun|n=>n⟩
theorem Tryz.lays134:Go.Proofs.Lays.n134 Tryz.prog Tryz.lays134_ren:={
 mixed:=by kernel_rfl
 f129:=Tryz.func115.trans (congrArg some (by kernel_rfl))
 f134:=Tryz.func147.trans (congrArg some (by kernel_rfl))
 t3:=Tryz.underlying3
 a3:=Tryz.isAgg3
 z3:=Tryz.sizeOf3
 v3:=Tryz.zeroValue3
 t4:=Tryz.underlying4
 a4:=Tryz.isAgg4
 z4:=Tryz.sizeOf4
 v4:=Tryz.zeroValue4
 t5:=Tryz.underlying5
 a5:=Tryz.isAgg5
 z5:=Tryz.sizeOf5
 v5:=Tryz.zeroValue5
 t9:=Tryz.underlying9
 a9:=Tryz.isAgg9
 z9:=Tryz.sizeOf9
 v9:=Tryz.zeroValue9
 t46:=Tryz.underlying155
 a46:=Tryz.isAgg155
 z46:=Tryz.sizeOf155
 v46:=Tryz.zeroValue155
 t53:=Tryz.underlying22
 a53:=Tryz.isAgg22
 z53:=Tryz.sizeOf22
 v53:=Tryz.zeroValue22 }
theorem Tryz.bits_LeadingZeros64 (x:Int) (w:World) (h0:0≤x) (h1:x≤18446744073709551615) :
  Calls Tryz.prog 147 #[.int .u64 x] w fun e w'=>e=.returned (.int .i64 (64 - (Lib.bitLen x.toNat:Int)))∧w'=w:=Any.bits_LeadingZeros64 Tryz.lays134 x w h0 h1
def Tryz.lays129_ren:Go.Shelf.Ren:=⟨fun|129=>115|n=>n,fun|53=>22|3=>3|4=>4|46=>155|5=>5|9=>9|n=>n,fun|n=>n⟩
theorem Tryz.lays129:Go.Proofs.Lays.n129 Tryz.prog Tryz.lays129_ren:={
 mixed:=by kernel_rfl
 f129:=Tryz.func115.trans (congrArg some (by kernel_rfl))
 t3:=Tryz.underlying3
 a3:=Tryz.isAgg3
 z3:=Tryz.sizeOf3
 v3:=Tryz.zeroValue3
 t4:=Tryz.underlying4
 a4:=Tryz.isAgg4
 z4:=Tryz.sizeOf4
 v4:=Tryz.zeroValue4
 t5:=Tryz.underlying5
 a5:=Tryz.isAgg5
 z5:=Tryz.sizeOf5
 v5:=Tryz.zeroValue5
 t9:=Tryz.underlying9
 a9:=Tryz.isAgg9
 z9:=Tryz.sizeOf9
 v9:=Tryz.zeroValue9
 t46:=Tryz.underlying155
 a46:=Tryz.isAgg155
 z46:=Tryz.sizeOf155
 v46:=Tryz.zeroValue155
 t53:=Tryz.underlying22
 a53:=Tryz.isAgg22
 z53:=Tryz.sizeOf22
 v53:=Tryz.zeroValue22 }
theorem Tryz.bits_Len64 (x:Int) (w:World) (h0:0≤x) (h1:x≤18446744073709551615) :
  Calls Tryz.prog 115 #[.int .u64 x] w fun e w'=>e=.returned (.int .i64 (Lib.bitLen x.toNat))∧w'=w:=Any.bits_Len64 Tryz.lays129 x w h0 h1
def Tryz.lays264_ren:Go.Shelf.Ren:=⟨fun|264=>117|n=>n,fun|53=>22|46=>155|n=>n,fun|n=>n⟩
theorem Tryz.lays264:Go.Proofs.Lays.n264 Tryz.prog Tryz.lays264_ren:={
 mixed:=by kernel_rfl
 f264:=Tryz.func117.trans (congrArg some (by kernel_rfl))
 t46:=Tryz.underlying155
 a46:=Tryz.isAgg155
 z46:=Tryz.sizeOf155
 v46:=Tryz.zeroValue155
 t53:=Tryz.underlying22
 a53:=Tryz.isAgg22
 z53:=Tryz.sizeOf22
 v53:=Tryz.zeroValue22 }
open Go.RowKit Go.Lib in
theorem Tryz.bits_Mul64 (x y:Nat) (hx:x<18446744073709551616) (hy:y<18446744073709551616) (w:World) :
  Calls Tryz.prog 117 #[.int .u64 x,.int .u64 y] w fun e w'=>e=.returned (.tuple #[.int .u64 ((x*y / 18446744073709551616:Nat):Int),.int .u64 ((x*y%18446744073709551616:Nat):Int)])∧w'=w:=Any.bits_Mul64 Tryz.lays264 x y hx hy w
end Go.Proofs
namespace Go.Proofs.YteibfbjpkjkejaaGreatDoor
section
namespace Sx
def sc (q:Nat) (l:List Nat):Bool:=decide (1<q) && l.all (fun x=>decide (x<q))
theorem uR {q:Nat} {l:List Nat} (h:sc q l=true):1<q∧∀ x∈l,x<q:=by
 unfold sc at h;simpa using h
def yH:List Nat→Nat→Nat
 | [],_=>0
 | c::r,x=>c+x*yH r x
theorem j8 (p:List Nat) (c x:Nat):yH (p++[c]) x=yH p x+c*x ^ p.length:=by
 induction p with
 | nil=>simp[yH]
 | cons a r ih =>
  simp only[List.cons_append,yH,ih,List.length_cons,Nat.pow_succ,Nat.mul_add];rw[Nat.add_assoc,Nat.mul_left_comm x c,Nat.mul_comm x (x ^ r.length)]
def iu (q x:Nat):List Nat→Nat
 | []=>0
 | c::r=>(iu q x r*x%q+c)%q
theorem bu (q x:Nat) (p:List Nat):iu q x p=yH p x%q:=by
 induction p with
 | nil=>simp[iu,yH]
 | cons c r ih =>
  simp only[iu,yH,ih];rw[Nat.mod_mul_mod,Nat.mod_add_mod,Nat.add_comm,Nat.mul_comm]
def ofZ (q:Nat) (n:Int):Nat:=if q<2 then 0 else (n%(q:Int)).toNat
theorem eX (q m:Nat) (h:0<q):ofZ q (m:Int)=m%q:=by
 unfold ofZ;split
 ·have:q=1:=by omega
  subst this;rw[Nat.mod_one]
 ·rw[← Int.natCast_emod,Int.toNat_natCast]
end Sx
end
end Go.Proofs.YteibfbjpkjkejaaGreatDoor
