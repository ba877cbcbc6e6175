/- Part 17 of the proof. -/
import Derived.Test.YteibfbjpkjkejaaGreatDoorS08
import Derived.RangeFuncNested
import Derived.OrdersIn
import Derived.TacticsIn
import Derived.DeepKeys3
import Derived.WideLaws
set_option linter.unusedSimpArgs false
set_option linter.unusedVariables false
namespace Go.Proofs.YteibfbjpkjkejaaGreatDoor
section
open Go Go.RowKit Go.BigFrame
namespace Sx
def ovN (l:List Nat) (off:Nat) (xs:List Nat):List Nat:=l.take off++xs++l.drop (off+xs.length)
theorem ab6 (l:List Nat) (off:Nat) (xs:List Nat):over (byC l) off (byC xs)=byC (ovN l off xs):=by
 unfold over ovN;rw[zZ,zZ,kQ,oX,zh]
theorem pC {l xs:List Nat} {off:Nat} (h:off+xs.length≤l.length):(ovN l off xs).length=l.length:=by
 simp only[ovN,List.length_append,List.length_take,List.length_drop];omega
def wrK (n:Nat) (X:List Nat):Nat:=min X.length (64 - n%64)
theorem ox {n:Nat} {X:List Nat} (h:X≠[]):0<wrK n X:=by
 have:=List.length_pos_iff.2 h;have:=Nat.mod_lt n (show 0<64 by omega);unfold wrK;omega
def wr (s buf:List Nat) (n:Nat) (X:List Nat):List Nat × List Nat × Nat :=
 if h:X=[] then (s,buf,n) else
  wr (if n%64+wrK n X=64 then Sha.take s (ovN buf (n%64) (X.take (wrK n X))) else s) (ovN buf (n%64) (X.take (wrK n X))) (n+wrK n X) (X.drop (wrK n X))
termination_by X.length
decreasing_by
 have h1:=ox (n:=n) h;have:=List.length_pos_iff.2 h;rw[List.length_drop];omega
theorem nW (s buf:List Nat) (n:Nat):wr s buf n []=(s,buf,n):=by rw[wr];simp
theorem lE {s buf:List Nat} {n:Nat} {X:List Nat} (h:X≠[]):wr s buf n X=wr (if n%64+wrK n X=64 then Sha.take s (ovN buf (n%64) (X.take (wrK n X))) else s) (ovN buf (n%64) (X.take (wrK n X))) (n+wrK n X) (X.drop (wrK n X)):=by
 rw[wr];simp[h]
structure kw (m s buf:List Nat) (n:Nat):Prop where
 n:n=m.length
 s:s=Sha.takes Sha.H0 m (m.length / 64)
 len:buf.length=64
 rest:buf.take (m.length%64)=m.drop (64*(m.length / 64))
theorem rX (s m Y:List Nat):∀ q,64*q≤m.length→Sha.takes s (m++Y) q=Sha.takes s m q
 | 0,_=>rfl
 | q+1,h=>by
  rw[Sha.takes,Sha.takes,rX s m Y q (by omega),List.drop_append_of_le_length (by omega),List.take_append_of_le_length (by rw[List.length_drop];omega)]
theorem kw.step {m s buf Y:List Nat} {n:Nat} (h:kw m s buf n) (hY:n%64+Y.length≤64) (h0:0<Y.length) :
  kw (m++Y) (if n%64+Y.length=64 then Sha.take s (ovN buf (n%64) Y) else s) (ovN buf (n%64) Y) (n+Y.length):=by
 obtain⟨hn,hs,hl,hr⟩:=h;subst hn;have hml:=Nat.mod_lt m.length (show 0<64 by omega);have hdm:=Nat.div_add_mod m.length 64;have hdl:(m++Y).drop (64*(m.length / 64))=m.drop (64*(m.length / 64))++Y:=List.drop_append_of_le_length (by omega);have hbl:(buf.take (m.length%64)).length=m.length%64:=by rw[List.length_take];omega
 have hov:(ovN buf (m.length%64) Y).take (m.length%64+Y.length)=m.drop (64*(m.length / 64))++Y:=by
  unfold ovN;rw[hr] at *;rw[List.take_append_of_le_length (by rw[List.length_append,hbl];omega),List.take_of_length_le (by rw[List.length_append,hbl];omega)]
 have hlen:(ovN buf (m.length%64) Y).length=64:=by rw[pC (by omega),hl]
 by_cases hf:m.length%64+Y.length=64
 ·rw[if_pos hf];have hq:(m++Y).length / 64=m.length / 64+1:=by rw[List.length_append];omega
  have hm:(m++Y).length%64=0:=by rw[List.length_append];omega
  refine⟨by rw[List.length_append],?_,hlen,?_⟩
  ·rw[hq,Sha.takes,rX _ _ _ _ (by omega),← hs,hdl];rw[hf,List.take_of_length_le (by omega)] at hov;rw[← hov,List.take_of_length_le (by omega)]
  ·rw[hm,hq,List.take_zero,List.drop_of_length_le (by rw[List.length_append];omega)]
 ·rw[if_neg hf];have hq:(m++Y).length / 64=m.length / 64:=by rw[List.length_append];omega
  have hm:(m++Y).length%64=m.length%64+Y.length:=by rw[List.length_append];omega
  refine⟨by rw[List.length_append],?_,hlen,?_⟩
  ·rw[hq,rX _ _ _ _ (by omega),hs]
  ·rw[hm,hq,hov,hdl]
theorem kw.wr:∀ (k:Nat) {m s buf X:List Nat} {n:Nat},X.length≤k→kw m s buf n→kw (m++X) (wr s buf n X).1 (wr s buf n X).2.1 (wr s buf n X).2.2
 | 0,m,s,buf,X,n,hk,h=>by
  have:X=[]:=List.eq_nil_of_length_eq_zero (by omega);subst this;rw[nW,List.append_nil];exact h
 | k+1,m,s,buf,X,n,hk,h=>by
  by_cases hX:X=[]
  ·subst hX;rw[nW,List.append_nil];exact h
  ·have hp:=ox (n:=n) hX;have hle:wrK n X≤X.length:=by unfold wrK;omega
   have hle2:n%64+wrK n X≤64:=by have:=Nat.mod_lt n (show 0<64 by omega);unfold wrK;omega
   have htl:(X.take (wrK n X)).length=wrK n X:=by rw[List.length_take];omega
   have hst:=h.step (Y:=X.take (wrK n X)) (by omega) (by omega);rw[htl] at hst;have:=kw.wr k (X:=X.drop (wrK n X)) (by rw[List.length_drop];omega) hst;rw[lE hX];rw[List.append_assoc,List.take_append_drop] at this;exact this
theorem kw.nil {buf:List Nat} (h:buf.length=64):kw [] Sha.H0 buf 0:=⟨rfl,rfl,h,rfl⟩
section
variable {P:Program} {w0:World} {gs:List Nat} {n:Nat} {ops:List Oper} {Q:Exit→Act→World→Prop} {K:List (Nat × Value)} {L:List Ent} {rest:List Oper}
theorem WO.ndp (k:(L.map Ent.g).Nodup→WO P w0 gs n ops Q K L rest):WO P w0 gs n ops Q K L rest:=fun a w h1 h2 h3 h4=>k h4.nodup a w h1 h2 h3 h4
theorem WC.ndp' {c:Code} (k:(L.map Ent.g).Nodup→WC P w0 gs n c Q K L):WC P w0 gs n c Q K L:=fun a w h1 h2 h3 h4=>k h4.nodup a w h1 h2 h3 h4
theorem WO.mine (k:(∀ e∈L,w0.heap.size≤e.g∨e.g∈gs)→WO P w0 gs n ops Q K L rest):WO P w0 gs n ops Q K L rest:=fun a w h1 h2 h3 h4=>k h4.mine a w h1 h2 h3 h4
theorem WC.mine {c:Code} (k:(∀ e∈L,w0.heap.size≤e.g∨e.g∈gs)→WC P w0 gs n c Q K L):WC P w0 gs n c Q K L:=fun a w h1 h2 h3 h4=>k h4.mine a w h1 h2 h3 h4
end
def RdP (v:Value) (X:List Nat) (w:World):Prop :=
 ∃ p c,v=.slice p X.length c∧X.length≤c∧c<9223372036854775808∧((p=none∧X=[])∨∃ b o,p=some ⟨b,o,none⟩∧b<w.heap.size∧Seg w b o (byC X))
theorem RdP.rdN {v:Value} {X:List Nat} {w0 w:World} {L:List Ent} {g:Nat} (h:RdP v X w0) (hg:w0.heap.size≤g) (hm:Mr w0 [] L w):RdN g v X.length (byC X) w:=by
 obtain⟨p,c,rfl,h1,h2,h3⟩:=h;refine⟨p,c,rfl,h1,h2,zh X,h3.imp (fun ⟨e1,e2⟩=>⟨e1,by rw[e2];rfl⟩) (fun ⟨b,o,e,hb,hs⟩=>⟨b,o,e,by omega,hs.mod hm.mod (by simp)⟩)⟩
theorem RdP.rd {v:Value} {X:List Nat} {w:World} (h:RdP v X w):Rd v X.length (byC X) w:=by
 obtain⟨p,c,rfl,h1,h2,h3⟩:=h;refine⟨p,c,rfl,h3.imp (fun ⟨e1,e2⟩=>⟨e1,by rw[e2];rfl,by rw[e2];rfl⟩) (fun ⟨b,o,e,_,hs⟩=>⟨b,o,e,hs⟩)⟩
theorem RdP.own {w0 w:World} {gs:List Nat} {L:List Ent} {g t c:Nat} {X:List Nat} {r:List Value} (hm:Mr w0 gs L w) (h:Hs L g t (byC X++r)) (hc:X.length≤c) (hc2:c<9223372036854775808):RdP (.slice (some ⟨g,0,none⟩) X.length c) X w :=
 ⟨_,c,rfl,hc,hc2,.inr ⟨g,0,rfl,(hm.ok _ h.mem).lt,(h.seg hm).sub (k:=0) (m:=X.length) (by unfold cut;rw[List.drop_zero,List.take_append_of_le_length (by rw[zh];omega),List.take_of_length_le (by rw[zh];omega)])⟩⟩
theorem RdP.own0 {w0 w:World} {gs:List Nat} {L:List Ent} {g t c:Nat} {X:List Nat} (hm:Mr w0 gs L w) (h:Hs L g t (byC X)) (hc:X.length≤c) (hc2:c<9223372036854775808):RdP (.slice (some ⟨g,0,none⟩) X.length c) X w :=
 RdP.own (r:=[]) hm (by rw[List.append_nil];exact h) hc hc2
theorem RdP.ne {v:Value} {X:List Nat} {w:World} {g:Nat} (h:RdP v X w) (hg:∀ b o n c,v=.slice (some ⟨b,o,none⟩) n c→b≠g):RdN g v X.length (byC X) w:=by
 obtain⟨p,c,rfl,h1,h2,h3⟩:=h;refine⟨p,c,rfl,h1,h2,zh X,h3.imp (fun ⟨e1,e2⟩=>⟨e1,by rw[e2];rfl⟩) (fun ⟨b,o,e,hb,hs⟩=>⟨b,o,e,hg b o _ _ (by rw[e]),hs⟩)⟩
theorem RdN.own {w0 w:World} {gs:List Nat} {L:List Ent} {g gS t c:Nat} {X:List Nat} {r:List Value} (hm:Mr w0 gs L w) (h:Hs L g t (byC X++r)) (hne:g≠gS) (hc:X.length≤c) (hc2:c<9223372036854775808):RdN gS (.slice (some ⟨g,0,none⟩) X.length c) X.length (byC X) w :=
 (RdP.own hm h hc hc2).ne (fun b o n c e=>by cases e;exact hne)
theorem RdN.own0 {w0 w:World} {gs:List Nat} {L:List Ent} {g gS t c:Nat} {X:List Nat} (hm:Mr w0 gs L w) (h:Hs L g t (byC X)) (hne:g≠gS) (hc:X.length≤c) (hc2:c<9223372036854775808):RdN gS (.slice (some ⟨g,0,none⟩) X.length c) X.length (byC X) w :=
 (RdP.own0 hm h hc hc2).ne (fun b o n c e=>by cases e;exact hne)
def ya (vs:List Value) (Ps:List (List Nat)) (w:World):Prop:=vs.length=Ps.length∧∀ (i:Nat) (v:Value) (X:List Nat),vs[i]?=some v→Ps[i]?=some X→RdP v X w
theorem ya.nil {w:World}:ya [] [] w:=⟨rfl,fun i v X h1 _=>by simp at h1⟩
theorem ya.cons {v:Value} {vs:List Value} {X:List Nat} {Ps:List (List Nat)} {w:World} (h:RdP v X w) (hs:ya vs Ps w):ya (v::vs) (X::Ps) w :=
 ⟨by simp[hs.1],fun i u Y h1 h2=>by
  cases i with
  | zero=>simp at h1 h2;subst h1;subst h2;exact h
  | succ i=>simp at h1 h2;exact hs.2 i u Y h1 h2⟩
theorem ya.snoc {v:Value} {vs:List Value} {X:List Nat} {Ps:List (List Nat)} {w:World} (h:RdP v X w) (hs:ya vs Ps w):ya (vs++[v]) (Ps++[X]) w :=
 ⟨by simp[hs.1],fun i u Y h1 h2=>by
  have h0:=hs.1
  rcases Nat.lt_trichotomy i vs.length with hi|hi|hi
  ·rw[List.getElem?_append_left hi] at h1;rw[List.getElem?_append_left (by omega)] at h2;exact hs.2 i u Y h1 h2
  ·rw[List.getElem?_append_right (by omega)] at h1;rw[List.getElem?_append_right (by omega)] at h2;rw[hi,Nat.sub_self] at h1;rw[show i - Ps.length=0 by omega] at h2;simp at h1 h2;subst h1;subst h2;exact h
  ·rw[List.getElem?_append_right (by omega)] at h1;rw[List.getElem?_eq_none (by simp;omega)] at h1;cases h1⟩
def tw (s:List Nat) (n:Nat):List Nat:=be 4 s.length++s++be 4 n
def yW (Ps:List (List Nat)):List Nat:=Ps.flatMap fun p=>be 4 p.length++p
theorem pc (Ps:List (List Nat)) (X:List Nat):yW (Ps++[X])=yW Ps++be 4 X.length++X:=by simp[yW]
theorem pK {Ps:List (List Nat)} {i:Nat} {X:List Nat} (h:Ps[i]?=some X):yW (Ps.take (i+1))=yW (Ps.take i)++be 4 X.length++X:=by
 rw[List.take_add_one,h];exact pc _ _
theorem dX (Ps Qs:List (List Nat)):yW (Ps++Qs)=yW Ps++yW Qs:=by simp[yW]
def yS (s:List Nat) (Ps:List (List Nat)):List Nat:=tw s Ps.length++yW Ps
def hOf (s:List Nat) (Ps:List (List Nat)):List Nat:=Sha.sum (yS s Ps)
theorem tn {wd x:Nat}:∀ b∈be wd x,b<256:=by
 intro b hb;unfold be at hb;obtain⟨j,_,rfl⟩:=List.mem_map.1 hb;exact Nat.mod_lt _ (by omega)
theorem cX {Ps:List (List Nat)} {i:Nat} {X:List Nat} (h:Ps[i]?=some X):(yW (Ps.take i)).length+4+X.length≤(yW Ps).length:=by
 have h1:=pK h;have h2:=dX (Ps.take (i+1)) (Ps.drop (i+1));rw[List.take_append_drop] at h2;rw[h2,h1];simp only[List.length_append,zk];omega
theorem aeg {l xs:List Nat} {off b:Nat} (h1:∀ y∈l,y<b) (h2:∀ y∈xs,y<b):∀ y∈ovN l off xs,y<b:=by
 intro y hy;unfold ovN at hy
 rcases List.mem_append.1 hy with hy|hy
 ·rcases List.mem_append.1 hy with hy|hy
  ·exact h1 y (List.mem_of_mem_take hy)
  ·exact h2 y hy
 ·exact h1 y (List.mem_of_mem_drop hy)
theorem aas:∀ (k:Nat) {s buf X:List Nat} {n:Nat},X.length≤k→(∀ y∈buf,y<256)→(∀ y∈X,y<256)→∀ y∈(wr s buf n X).2.1,y<256
 | 0,s,buf,X,n,hk,h1,h2=>by
  have:X=[]:=List.eq_nil_of_length_eq_zero (by omega);subst this;rw[nW];exact h1
 | k+1,s,buf,X,n,hk,h1,h2=>by
  by_cases hX:X=[]
  ·subst hX;rw[nW];exact h1
  ·have hp:=ox (n:=n) hX;have:=List.length_pos_iff.2 hX;rw[lE hX];exact aas k (by rw[List.length_drop];omega) (aeg h1 (tK h2 _)) (vN h2 _)
theorem adi (x:Nat):Sha.be8 x=be 8 x:=by
 simp only[Sha.be8,be,List.range_succ,List.range_zero,List.nil_append,List.cons_append,List.map_cons,List.map_nil,Nat.reduceMul,Nat.reduceSub,Nat.reducePow,Nat.div_one]
def li (n:Nat):List Nat:=128::List.replicate (Sha.pad n) 0++be 8 (8*n)
theorem aa1 {m:List Nat} (h:8*m.length<18446744073709551616):Sha.padded m=m++li m.length:=by
 unfold Sha.padded li;rw[Nat.mod_eq_of_lt h,adi];simp
theorem y5 (n:Nat):(li n).length=Sha.pad n+9:=by simp[li,zk]
theorem abK (n:Nat):∀ x∈li n,x<256:=by
 intro x hx;unfold li at hx
 rcases List.mem_append.1 hx with hx|hx
 ·rcases List.mem_cons.1 hx with rfl|hx
  ·omega
  ·have:=List.eq_of_mem_replicate hx;omega
 ·unfold be at hx;obtain⟨j,_,rfl⟩:=List.mem_map.1 hx;exact Nat.mod_lt _ (by omega)
theorem bn {n l:Nat} (h1:1≤l) (h2:l≤Sha.pad n+1):(n+l)%64=56↔l=Sha.pad n+1:=by
 unfold Sha.pad at *;omega
theorem uj (s:List Nat):(Sha.outs s).length=4*s.length:=by
 induction s with
 | nil=>rfl
 | cons x s ih =>
  have:Sha.outs (x::s)=[x / 16777216%256,x / 65536%256,x / 256%256,x%256]++Sha.outs s:=by simp[Sha.outs]
  rw[this,List.length_append,ih];simp;omega
theorem ab7 (s:List Nat):Sha.outs s=beL 4 s:=by
 unfold Sha.outs beL;congr 1;funext x;simp only[be,List.range_succ,List.range_zero,List.nil_append,List.cons_append,List.map_cons,List.map_nil,Nat.reduceMul,Nat.reduceSub,Nat.reducePow,Nat.div_one]
theorem bJ {s:List Nat} {i:Nat} (h:i<4*s.length):(Sha.outs s)[i]?=some (s.getD (i / 4) 0 / 2 ^ (8*(3 - i%4))%256):=by
 have hi:i / 4<s.length:=by omega
 have hm:i%4<4:=Nat.mod_lt _ (by omega);have:=m7 (wd:=4) hm hi;rw[ab7];rw[show i / 4*4+i%4=i by omega] at this;rw[this];simp[List.getD,hi]
def Qk (k:Act→World→Prop) (Q:Exit→Act→World→Prop):Exit→Act→World→Prop
 | .normal,a,w=>k a w
 | e,a,w=>Q e a w
theorem Qk.out {k:Act→World→Prop} {Q:Exit→Act→World→Prop} (h:LetsOut (Qk k Q)):LetsOut Q:=h
theorem aa3 {P:Program} {o:Oper} {a:Act} {w:World} {k:Act→World→Prop} {Q:Exit→Act→World→Prop} (h:o.wp P a w (fun a w=>Qk k Q .normal a w) (Qk k Q)):o.wp P a w k Q:=by
 unfold Oper.wp at *;generalize (execOp a.eval o).run P w=r at *;cases r with
 | ok n w' =>
  cases n<;>simp only[Oper.upon] at h ⊢<;>first|exact h|exact Calls.mono h (fun e w'' he=>by cases e<;>first|exact he|exact Qk.out he)
 | halt x w'=>cases x<;>simp only[Oper.upon] at h ⊢<;>exact h
theorem oq {P:Program} {ops:Array Oper} {i:Nat} {o:Oper} {a:Act} {w:World} {k:Act→World→Prop} {Q:Exit→Act→World→Prop} (ho:ops[i]?=some o) (h:wpList P ops (Qk k Q) [o] a w):wpOp P ops Q i k a w:=by
 unfold wpOp;rw[ho];unfold wpList at h
 split at h
 ·rename_i hw;simp only[hw,if_true];exact h.imp (fun h=>aa3 h) (fun h=>⟨h.1,Qk.out h.2⟩)
 ·rename_i hw;simp only[hw];exact h
section
variable (P:Program) (w0:World) (gs:List Nat) (n:Nat) (ops:List Oper) (Q:Exit→Act→World→Prop) (K:List (Nat × Value)) (L:List Ent)
def WA (S:List Bool) (f:Nat):Prop:=∀ a w,a.defers=[]→a.tmps.size=n→Kn K a→Me w0 gs L w→wpAny P .any ops.toArray Q f S.toArray a w
def d6 (S:List Bool) (f:Nat):List Nat→Prop
 | []=>True
 | i::r=>(∃ o,nth ops i=some o∧WO P w0 gs n ops (Qk (wpAny P .any ops.toArray Q f (S.set i true).toArray) Q) K L [o])∧d6 S f r
end
section
variable {P:Program} {w0:World} {gs:List Nat} {n:Nat} {ops:List Oper} {Q:Exit→Act→World→Prop} {K:List (Nat × Value)} {L:List Ent}
theorem d6.at {S:List Bool} {f:Nat}:∀ {rs:List Nat},d6 P w0 gs n ops Q K L S f rs→∀ i∈rs,∃ o,nth ops i=some o∧WO P w0 gs n ops (Qk (wpAny P .any ops.toArray Q f (S.set i true).toArray) Q) K L [o]
 | i::r,h,j,hj=>by
  rcases List.mem_cons.1 hj with rfl|hj
  ·exact h.1
  ·exact d6.at h.2 j hj
theorem WA.step {S:List Bool} {f:Nat} (rs:List Nat) (k:d6 P w0 gs n ops Q K L S f rs) (hr:Region.ready .any ops.toArray S.toArray=rs:=by decide +kernel) (hne:rs≠[]:=by decide):WA P w0 gs n ops Q K L S (f+1):=by
 intro a w h1 h2 h3 h4;refine⟨fun h0=>absurd (hr.symm.trans h0) hne,fun i hi=>?_⟩;rw[hr] at hi;obtain⟨o,ho,hk⟩:=k.at i hi;have:=oq (k:=wpAny P .any ops.toArray Q f (S.set i true).toArray) (Q:=Q) (ops:=ops.toArray) (i:=i) (o:=o) (P:=P) (by simpa [yY] using ho) (hk a w h1 h2 h3 h4);simpa using this
theorem WA.done {S:List Bool} (k:WX w0 gs n .normal Q K L) (hr:Region.ready .any ops.toArray S.toArray=[]:=by decide +kernel):WA P w0 gs n ops Q K L S 0:=fun a w h1 h2 h3 h4=>⟨hr,k a w h1 h2 h3 h4⟩
theorem d6.nil {S:List Bool} {f:Nat}:d6 P w0 gs n ops Q K L S f []:=trivial
theorem d6.cons {S:List Bool} {f i:Nat} {r:List Nat} {o:Oper} (k:WO P w0 gs n ops (Qk (wpAny P .any ops.toArray Q f (S.set i true).toArray) Q) K L [o]) (kr:d6 P w0 gs n ops Q K L S f r) (ho:nth ops i=some o:=by rfl):d6 P w0 gs n ops Q K L S f (i::r):=⟨⟨o,ho,k⟩,kr⟩
theorem WX.wa {S S' : List Bool} {f i:Nat} {Q' : Exit→Act→World→Prop} (k:WA P w0 gs n ops Q K L S' f) (hS:S.set i true=S':=by rfl):WX w0 gs n .normal (Qk (wpAny P .any ops.toArray Q f (S.set i true).toArray) Q') K L:=by
 subst hS;exact k
theorem WA.less {S:List Bool} {f:Nat} (K' : List (Nat × Value)) (L' : List Ent) (k:WA P w0 gs n ops Q K' L' S f)
  (hk:Kle K' K:=by (repeat (first|exact Kle.nil|refine Kle.cons rfl rfl ?_)))
  (hl:Lle L' L:=by (repeat (first|exact Lle.nil|refine Lle.c ?_))):WA P w0 gs n ops Q K L S f:=fun a w h1 h2 h3 h4=>k a w h1 h2 (hk.kn h3) (hl.me h4)
def bt:Nat→Nat→List Bool
 | 0,_=>[]
 | n+1,m=>(m%2 == 1)::bt n (m / 2)
theorem WA.go {S S' : List Bool} {f i:Nat} {K' : List (Nat × Value)} {L' : List Ent} {Q' : Exit→Act→World→Prop} {A:List (Nat × Value)→List Ent→List Bool→Nat→Prop} (hA:∀ K L S f,A K L S f↔WA P w0 gs n ops Q K L S f) (h:A K' L' S' f)
  (hk:Kle K' K:=by (repeat (first|exact Kle.nil|refine Kle.cons rfl rfl ?_)))
  (hl:Lle L' L:=by (repeat (first|exact Lle.nil|refine Lle.c ?_))) (hS:S.set i true=S':=by rfl):WO P w0 gs n ops (Qk (wpAny P .any ops.toArray Q f (S.set i true).toArray) Q') K L []:=WO.nil (WX.wa (WA.less K' L' ((hA _ _ _ _).1 h) hk hl) hS)
theorem Me.drawn {w:World} {d:Nat} (h:Me w0 gs L w):Me w0 gs L { w with drawn:=d } :=
 ⟨⟨h.mod.os,h.mod.tape,h.mod.output,h.mod.size,h.mod.block⟩,h.ok,h.mine,h.nodup⟩
theorem WC.all {id:Nat} {l:List Oper} [Mix P] (k:WA P w0 gs n l Q K L (List.replicate l.length false) l.length):WC P w0 gs n (.region id l.toArray true) Q K L:=by
 intro a w h1 h2 h3 h4;refine wp_region_any Mix.out ?_;have:=k a { w with drawn:=w.drawn+1 } h1 h2 h3 h4.drawn;simpa using this
theorem WC.allA {id:Nat} {l:List Oper} [Mix P] (k:∀ A:List (Nat × Value)→List Ent→List Bool→Nat→Prop,(∀ K L S f,A K L S f↔WA P w0 gs n l Q K L S f)→A K L (List.replicate l.length false) l.length):WC P w0 gs n (.region id l.toArray true) Q K L :=
 WC.all ((k _ (fun _ _ _ _=>Iff.rfl)))
end
def FnI (P:Program) (f:FuncId) (args:List Value) (g t:Nat) (C:List Value→Prop) (R:World→Prop) (v:Value):Prop :=
 ∀ w cs,C cs→(⟨g,t,cs⟩ : Ent).ok w→R w→Calls P f args.toArray w (fun e w'=>e=.returned v∧Mod [g] w w'∧∃ cs',C cs'∧(⟨g,t,cs'⟩ : Ent).ok w')
def adc (w:World) (g t:Nat) (C:List Value→Prop) (v:Value):Ending→World→Prop:=fun e w'=>e=.returned v∧Mod [g] w w'∧∃ cs',C cs'∧(⟨g,t,cs'⟩ : Ent).ok w'
theorem FnI.enter {P:Program} {n:Nat} {f:FuncId} {fn:Func} {c:Code} {args:List Value} {g t:Nat} {C:List Value→Prop} {R:World→Prop} {v:Value} (hf:P.funcs[f]?=some fn) (hb:fn.body=some c) (hn:fn.ntmps=n) (hle:Nat.ble args.length n=true)
  (k:∀ w cs,C cs→R w→WC P w [g] n c (bodyPost P fn (adc w g t C v)) (kin args 0) [⟨g,t,cs⟩]):FnI P f args g t C R v:=by
 intro w cs hC hok hw;refine calls_of_wp hf hb ?_;have hle' : args.length≤n:=by simpa using hle
 refine k w cs hC hw _ w rfl (by simp[hn];omega) (fun t v hv=>?_) ⟨.refl _ _,by simpa using hok,by simp,by simp⟩;obtain⟨j,h1,h2⟩:=uY args 0 t v hv;subst h1;have hj:j<args.length:=by
  rcases Nat.lt_or_ge j args.length with h|h
  ·exact h
  ·rw[List.getElem?_eq_none h] at h2;cases h2
 simp only[Nat.zero_add];rw[Array.getElem?_append_left (by simpa using hj)];simpa using h2
section
variable {P:Program} {w0:World} {gs:List Nat} {n:Nat} {ops:List Oper} {Q:Exit→Act→World→Prop} {K:List (Nat × Value)} {L:List Ent} {rest:List Oper}
variable {d:Nat} {op:Op} {ty:TypeId} {pos:String} {after:Array Edge} {gd:Option (Nat × Bool)}
theorem WO.callI {f:FuncId} [Cal P f] {x:Operand} {xs:Array Operand} {ats:Array TypeId} {aq fs ks aq' : List Value} {g t:Nat} {C:List Value→Prop} {cs:List Value} {L2:List Ent} {R:World→Prop} {v:Value} (hc:FnI P f aq' g t C R v) (hx:ev K x=some (.func (.func f) fs.toArray ks.toArray))
  (ha:evs K xs.toList=some aq) (hh:fs++aq++ks=aq') (hp:Pk L g t cs L2) (hC:C cs) (hR:∀ w,Me w0 gs L w→R w) (ht:t≠0)
  (k:∀ cs',C cs'→WO P w0 gs n ops Q ((d,v)::K) (⟨g,t,cs'⟩::L2) rest) (hd:Nat.blt d n=true) (hw:wk ops K gd=some true) :
  WO P w0 gs n ops Q K L (⟨some d,.call { callee:=.value x,args:=xs,argTypes:=ats },ty,pos,after,gd⟩::rest):=by
 subst hh;intro a w hdf hsz hk hme;refine wpList_step fun F hF=>?_;rw[if_pos (zV (o:=⟨some d,.call { callee:=.value x,args:=xs,argTypes:=ats },ty,pos,after,gd⟩) hk hw)];have hd' : d<n:=by simpa [Nat.blt_eq] using hd
 unfold Oper.wp;rw[ve hk hx ha,Oper.upon_enter];have hme2:=hme.perm hp.perm;refine (hc w cs hC (hme2.ok _ (by simp)) (hR w hme)).mono ?_;rintro e w' ⟨rfl,hm,cs',hC',hok⟩;exact hF _ _ (k cs' hC' _ _ (by rw[put_defers];exact hdf) (by rw[zP];exact hsz) (hk.put (by omega) v) (hme2.callM Rp.here hm hok ht))
theorem WX.retI {fn:Func} {g t:Nat} {C:List Value→Prop} {cs:List Value} {v:Value} (hr:∀ a w,Kn K a→Me w0 [g] L w→(results fn a.tmps).run P w=.ok v w) (hN:Hs L g t cs) (hC:C cs):WX w0 [g] n .ret (bodyPost P fn (adc w0 g t C v)) K L:=fun a w h1 _ h3 h4 =>
 ⟨h1,v,hr a w h3 h4,rfl,h4.mod,cs,hC,h4.ok _ hN.mem⟩
end
def fw (ro:Option Nat):Fence:={ fn:=fun _=>True,depth:=none,alive:=false,round:=ro }
theorem iJ {ro:Option Nat} {m:Nat} {P:Program} {f:FuncId} {args:Array Value} {w:World} {R:Ending→World→Prop} (h:Calls P f args w R):CallsIn (fw ro) m P f args w R:=callsIn_wide.2 h
theorem i5 {ro:Option Nat} {m:Nat} {P:Program} {f:String} {args:Array Value} {w:World} {R:Value→World→Prop} (h:Rows P f args w R):RowsIn (fw ro) m P f args w R :=
 fun c cs _=>let ⟨v,w',r,s⟩:=h c cs;⟨v,w',r,stepsIn_wide.2 s⟩
theorem si {ro:Option Nat} {m:Nat} {P:Program} {o:Oper} {a:Act} {w:World} {next:Act→World→Prop} {Q:Exit→Act→World→Prop} (hd:∀ c,o.op≠.defer c) (h:o.wp P a w next Q):o.wpIn (fw ro) m P a w next Q:=by
 refine⟨fun _ _=>trivial,?_⟩;rw[Oper.semAt_eq _ _ _ hd];unfold Oper.wp at h;generalize (execOp a.eval o).run P w=r at *;cases r with
 | ok x w' =>
  cases x<;>simp only[Oper.upon,Oper.uponIn] at h ⊢ <;>
   first
    | exact h
    | exact⟨fun h=>by simp[fw] at h,iJ h⟩
    | exact⟨fun h=>by simp[fw] at h,i5 h⟩
 | halt x w'=>cases x<;>simp only[Oper.upon,Oper.uponIn] at h ⊢<;>exact h
def vP (l:List Oper):Bool:=l.all (fun o=>match o.op with|.defer _=>false|_=>true)
theorem uo {l:List Oper} (h:vP l=true):∀ o∈l,∀ c,o.op≠.defer c:=by
 intro o ho c hc;have:=List.all_eq_true.1 h o ho;rw[hc] at this;cases this
theorem oI {ro:Option Nat} {m:Nat} {P:Program} {ops:Array Oper} {Q:Exit→Act→World→Prop} (hQ:¬ LetsOut Q):∀ {l:List Oper} {a:Act} {w:World},(∀ o∈l,∀ c,o.op≠.defer c)→wpList P ops Q l a w→wpListIn (fw ro) m P ops Q l a w
 | [],_,_,_,h=>h
 | o::r,a,w,hd,h=>by
  unfold wpList at h;unfold wpListIn
  split at h
  ·rename_i hw;rw[if_pos hw]
   rcases h with h|h
   ·exact Oper.wpIn_mono (fun a w h=>oI hQ (fun o ho=>hd o (by simp[ho])) h) (si (hd o (by simp)) h)
   ·exact absurd h.2 hQ
  ·rename_i hw;rw[if_neg hw];exact⟨fun _ _=>trivial,oI hQ (fun o ho=>hd o (by simp[ho])) h⟩
section
variable (ro:Option Nat) (m:Nat) (P:Program) (w0:World) (gs:List Nat) (n:Nat)
def WI (c:Code) (Q:Exit→Act→World→Prop) (K:List (Nat × Value)) (L:List Ent):Prop :=
 ∀ a w,a.defers=[]→a.tmps.size=n→Kn K a→Me w0 gs L w→c.wpIn (fw ro) m P Q a w
end
section
variable {ro:Option Nat} {m:Nat} {P:Program} {w0:World} {gs:List Nat} {n:Nat} {Q:Exit→Act→World→Prop} {K:List (Nat × Value)} {L:List Ent}
theorem WI.skip (k:WX w0 gs n .normal Q K L):WI ro m P w0 gs n .skip Q K L:=fun a w h1 h2 h3 h4=>wpIn_skip (k a w h1 h2 h3 h4)
theorem WI.seq {x y:Code} (k:WI ro m P w0 gs n x (Exit.then (y.wpIn (fw ro) m P Q) Q) K L):WI ro m P w0 gs n (.seq x y) Q K L:=fun a w h1 h2 h3 h4=>wpIn_seq (k a w h1 h2 h3 h4)
theorem WI.condT {c:Operand} {x y:Code} (hc:ev K c=some (.bool true)) (k:WI ro m P w0 gs n x Q K L):WI ro m P w0 gs n (.cond c x y) Q K L:=fun a w h1 h2 h3 h4=>wpIn_cond_true (h3.eval hc) (k a w h1 h2 h3 h4)
theorem WI.condF {c:Operand} {x y:Code} (hc:ev K c=some (.bool false)) (k:WI ro m P w0 gs n y Q K L):WI ro m P w0 gs n (.cond c x y) Q K L:=fun a w h1 h2 h3 h4=>wpIn_cond_false (h3.eval hc) (k a w h1 h2 h3 h4)
theorem WI.region {id:Nat} {l:List Oper} (k:WO P w0 gs n l Q K L l) (hQ:¬ LetsOut Q) (hd:vP l=true:=by rfl):WI ro m P w0 gs n (.region id l.toArray false) Q K L:=fun a w h1 h2 h3 h4 =>
 wpIn_region_lit (oI hQ (uo hd) (k a w h1 h2 h3 h4))
theorem WI.block {id:Nat} {c:Code} (k:WI ro m P w0 gs n c (Exit.inBlock id Q) K L):WI ro m P w0 gs n (.block id c) Q K L:=fun a w h1 h2 h3 h4=>wpIn_block (k a w h1 h2 h3 h4)
theorem WI.exit {id:Nat} (k:WX w0 gs n (.exit id) Q K L):WI ro m P w0 gs n (.exit id) Q K L:=fun a w h1 h2 h3 h4=>wpIn_exit (k a w h1 h2 h3 h4)
theorem WI.ret (k:WX w0 gs n .ret Q K L):WI ro m P w0 gs n .ret Q K L:=fun a w h1 h2 h3 h4=>wpIn_ret (k a w h1 h2 h3 h4)
def ae6 {σ:Type} (n:Nat) (Ks:σ→List (Nat × Value)) (Inv:σ→World→Prop) (ok:σ→Prop):Act→World→Prop:=fun a w=>∃ s,ok s∧a.defers=[]∧a.tmps.size=n∧Kn (Ks s) a∧Inv s w
theorem WI.loopW {σ:Type} {c:Code} (Ks:σ→List (Nat × Value)) (Inv:σ→World→Prop) (μ:σ→Nat) (s0:σ) (h0:∀ w,Me w0 gs L w→Inv s0 w) (hk:Kle (Ks s0) K)
  (k:∀ s w,Inv s w→WI ro m P w [] n c (Exit.then (ae6 n Ks Inv (fun s'=>μ s' < μ s)) Q) (Ks s) []):WI ro m P w0 gs n (.loop c) Q K L:=fun a w h1 h2 h3 h4=>by
 refine wpIn_loop (fun a w=>∃ j s,μ s=j∧a.defers=[]∧a.tmps.size=n∧Kn (Ks s) a∧Inv s w) (fun a w=>leastOf (fun j=>∃ s,μ s=j∧a.defers=[]∧a.tmps.size=n∧Kn (Ks s) a∧Inv s w)) ⟨_,s0,rfl,h1,h2,hk.kn h3,h0 w h4⟩ ?_;intro a w hI;obtain⟨s,hs,g1,g2,g3,g4⟩:=(leastOf_spec hI).1;refine wpIn_mono (k s w g4 a w g1 g2 g3 (Me.refl w [])) ?_;intro e a' w' hq;cases e with
 | normal =>
  obtain⟨s',hlt,hI'⟩:=hq;refine show (∃ j s,μ s=j∧_)∧leastOf _<leastOf _ from ⟨⟨_,s',rfl,hI'⟩,Nat.lt_of_le_of_lt ((leastOf_spec ⟨_,s',rfl,hI'⟩).2 (μ s') ⟨s',rfl,hI'⟩) ?_⟩;rw[← hs];exact hlt
 | _=>exact hq
theorem WX.metW {σ:Type} {Ks:σ→List (Nat × Value)} {Inv:σ→World→Prop} {ok:σ→Prop} (s:σ) (hs:ok s) (hk:Kle (Ks s) K) (hi:∀ w,Me w0 gs L w→Inv s w):WX w0 gs n .normal (Exit.then (ae6 n Ks Inv ok) Q) K L :=
 fun _ w h1 h2 h3 h4=>⟨s,hs,h1,h2,hk.kn h3,hi w h4⟩
theorem WX.seqI {y:Code} {Q' : Exit→Act→World→Prop} (k:WI ro m P w0 gs n y Q K L):WX w0 gs n .normal (Exit.then (y.wpIn (fw ro) m P Q) Q') K L:=k
end
def dfA (ds:List Deferred) (a:Act):Act:={ a with defers:=a.defers++ds }
theorem tm (ds:List Deferred) (a:Act) (d:Option Tmp) (v:Value):(dfA ds a).put d v=dfA ds (a.put d v):=by cases d<;>rfl
theorem v6 {P:Program} {ops:Array Oper} {Q:Exit→Act→World→Prop} (ds:List Deferred):∀ {l:List Oper} {a:Act} {w:World},wpList P ops (fun e a w=>Q e (dfA ds a) w) l a w→wpList P ops Q l (dfA ds a) w
 | [],_,_,h=>h
 | o::r,a,w,h=>by
  unfold wpList at h ⊢;have ht:(dfA ds a).tmps=a.tmps:=rfl;have he:(dfA ds a).eval=a.eval:=rfl;rw[ht]
  split at h
  ·rename_i hw;rw[if_pos hw]
   rcases h with h|⟨h,hl⟩
   ·refine .inl ?_;unfold Oper.wp at h ⊢;rw[he];generalize (execOp a.eval o).run P w=x at *;cases x with
    | ok n w' =>
     cases n with
     | value v=>simp only[Oper.upon] at h ⊢;rw[tm];exact v6 ds h
     | skip=>simp only[Oper.upon] at h ⊢;rw[tm];exact v6 ds h
     | defer dd=>simp only[Oper.upon] at h ⊢;exact (tm ds { a with defers:=dd::a.defers } o.dst undef) ▸ v6 ds h
     | enter f args =>
      simp only[Oper.upon] at h ⊢;exact Calls.mono h (fun e w'' hq=>by
       cases e with
       | returned v=>simp only at hq ⊢;rw[tm];exact v6 ds hq
       | panicked c=>exact hq
       | outgrown=>obtain⟨a',w',hq⟩:=hq;exact⟨_,w',hq⟩)
     | row f args=>simp only[Oper.upon] at h ⊢;exact Rows.mono h (fun v w'' hq=>by rw[tm];exact v6 ds hq)
     | _=>simp only[Oper.upon] at h
    | halt x w'=>cases x<;>simp only[Oper.upon] at h ⊢<;>exact h
   ·obtain⟨a',w',hl⟩:=hl;exact .inr ⟨h,_,w',hl⟩
  ·rename_i hw;rw[if_neg hw,tm];exact v6 ds h
theorem WO.tail {P:Program} {w0:World} {gs:List Nat} {n:Nat} {Q:Exit→Act→World→Prop} {K:List (Nat × Value)} {L:List Ent} {ds:List Deferred} {id:Nat} {l:List Oper} {c:Code} {a:Act} {w:World} (hd:a.defers=ds) (hs:a.tmps.size=n) (hk:Kn K a) (hm:Me w0 gs L w)
  (k:WO P w0 gs n l (fun e a w=>(Exit.then (c.wp P Q) Q) e (dfA ds a) w) K L l):(Code.seq (.region id l.toArray false) c).wp P Q a w:=by
 refine wp_seq (wp_region_lit ?_);have e:a=dfA ds { tmps:=a.tmps,defers:=[] }:=by
  cases a;subst hd;rfl
 rw[e];exact v6 ds (k { tmps:=a.tmps,defers:=[] } w rfl hs hk hm)
section
variable (m:Nat) (P:Program) (w0:World) (gs:List Nat) (n:Nat) (ops:List Oper) (Q:Exit→Act→World→Prop) (K:List (Nat × Value)) (L:List Ent)
def VA (S:List Bool) (f:Nat):Prop:=¬ LetsOut Q→vP ops=true→∀ a w,a.defers=[]→a.tmps.size=n→Kn K a→Me w0 gs L w→wpAnyIn (fw none) m P .any ops.toArray Q f S.toArray a w
def tG (S:List Bool) (f:Nat):List Nat→Prop
 | []=>True
 | i::r=>(∃ o,nth ops i=some o∧(¬ LetsOut Q→vP ops=true→WO P w0 gs n ops (Qk (wpAnyIn (fw none) m P .any ops.toArray Q f (S.set i true).toArray) Q) K L [o]))∧tG S f r
end
section
variable {m:Nat} {P:Program} {w0:World} {gs:List Nat} {n:Nat} {ops:List Oper} {Q:Exit→Act→World→Prop} {K:List (Nat × Value)} {L:List Ent}
theorem ej {i:Nat} {o:Oper} {a:Act} {w:World} {k:Act→World→Prop} {ops:Array Oper} (hQ:¬ LetsOut Q) (hd:∀ c,o.op≠.defer c) (ho:ops[i]?=some o) (h:wpList P ops (Qk k Q) [o] a w):wpOpIn (fw none) m P ops Q i k a w:=by
 unfold wpOpIn;rw[ho];unfold wpList at h
 split at h
 ·rename_i hw;simp only[hw,if_true]
  rcases h with h|h
  ·exact si hd (aa3 h)
  ·exact absurd (Qk.out h.2) hQ
 ·rename_i hw;simp only[hw];exact⟨fun _ _=>trivial,h⟩
theorem tG.at {S:List Bool} {f:Nat}:∀ {rs:List Nat},tG m P w0 gs n ops Q K L S f rs→∀ i∈rs,∃ o,nth ops i=some o∧(¬ LetsOut Q→vP ops=true→WO P w0 gs n ops (Qk (wpAnyIn (fw none) m P .any ops.toArray Q f (S.set i true).toArray) Q) K L [o])
 | i::r,h,j,hj=>by
  rcases List.mem_cons.1 hj with rfl|hj
  ·exact h.1
  ·exact tG.at h.2 j hj
theorem VA.step {S:List Bool} {f:Nat} (rs:List Nat) (k:tG m P w0 gs n ops Q K L S f rs) (hr:Region.ready .any ops.toArray S.toArray=rs:=by decide +kernel) (hne:rs≠[]:=by decide):VA m P w0 gs n ops Q K L S (f+1):=by
 intro hQ hd a w h1 h2 h3 h4;refine⟨fun h0=>absurd (hr.symm.trans h0) hne,fun i hi=>?_⟩;rw[hr] at hi;obtain⟨o,ho,hk⟩:=k.at i hi;have ho' : ops[i]?=some o:=by simpa [yY] using ho
 have:=ej (m:=m) (k:=wpAnyIn (fw none) m P .any ops.toArray Q f (S.set i true).toArray) (Q:=Q) (ops:=ops.toArray) (i:=i) (o:=o) (P:=P) hQ (uo hd o (List.mem_of_getElem? ho')) (by simpa using ho') (hk hQ hd a w h1 h2 h3 h4);simpa using this
theorem VA.done {S:List Bool} (k:WX w0 gs n .normal Q K L) (hr:Region.ready .any ops.toArray S.toArray=[]:=by decide +kernel):VA m P w0 gs n ops Q K L S 0:=fun _ _ a w h1 h2 h3 h4=>⟨hr,k a w h1 h2 h3 h4⟩
theorem tG.nil {S:List Bool} {f:Nat}:tG m P w0 gs n ops Q K L S f []:=trivial
theorem tG.cons {S:List Bool} {f i:Nat} {r:List Nat} {o:Oper} (k:¬ LetsOut Q→vP ops=true→WO P w0 gs n ops (Qk (wpAnyIn (fw none) m P .any ops.toArray Q f (S.set i true).toArray) Q) K L [o]) (kr:tG m P w0 gs n ops Q K L S f r) (ho:nth ops i=some o:=by rfl):tG m P w0 gs n ops Q K L S f (i::r):=⟨⟨o,ho,k⟩,kr⟩
theorem WX.va {S S' : List Bool} {f i:Nat} {Q' : Exit→Act→World→Prop} (k:VA m P w0 gs n ops Q K L S' f) (hQ:¬ LetsOut Q) (hd:vP ops=true) (hS:S.set i true=S':=by rfl):WX w0 gs n .normal (Qk (wpAnyIn (fw none) m P .any ops.toArray Q f (S.set i true).toArray) Q') K L:=by
 subst hS;exact k hQ hd
theorem VA.yield {S S' : List Bool} {f i d l:Nat} {x:Operand} {xs:Array Operand} {ats:Array TypeId} {ty:TypeId} {pos:String} {after:Array Edge} {vs:List Value} {R:World→Ending→World→Prop}
  (hx:ev K x=some (.func (.yield l) #[] #[])) (ha:evs K xs.toList=some vs)
  (hy:∀ w,Me w0 gs L w→YieldAt (fw none) (m - 1) P l vs.toArray w (R w))
  (k:∀ w e w',Me w0 gs L w→R w e w'→∃ b,e=.returned (.bool b)∧VA m P w' [] n ops Q ((d,.bool b)::K) [] S' f)
  (ho:nth ops i=some ⟨some d,.call { callee:=.value x,args:=xs,argTypes:=ats },ty,pos,after,none⟩:=by rfl) (hS:S.set i true=S':=by rfl) (hd:Nat.blt d n=true:=by rfl)
  (hr:Region.ready .any ops.toArray S.toArray=[i]:=by decide +kernel):VA m P w0 gs n ops Q K L S (f+1):=by
 intro hQ hd0 a w h1 h2 h3 h4;refine⟨fun h0=>absurd (hr.symm.trans h0) (by simp),fun j hj=>?_⟩;rw[hr] at hj;obtain rfl:=List.mem_singleton.1 hj;have ho' : ops.toArray[j]?=some ⟨some d,.call { callee:=.value x,args:=xs,argTypes:=ats },ty,pos,after,none⟩:=by simpa [yY] using ho
 unfold wpOpIn;rw[ho'];have hd' : d<n:=by simpa [Nat.blt_eq] using hd
 simp only[Region.wanted];rw[if_pos trivial];refine⟨fun _ _=>trivial,?_⟩;rw[Oper.semAt_eq _ _ _ (by intro c hc;cases hc)];obtain⟨fn,tmps,assign,body,h5,h6⟩:=hy w h4;have hrun:(execOp a.eval ⟨some d,.call { callee:=.value x,args:=xs,argTypes:=ats },ty,pos,after,none⟩).run P w=.ok (.round l fn tmps assign body) w:=by
  have e1:=h3.eval hx;have e2:xs.map a.eval=vs.toArray:=by have h:=h3.evals ha;apply Array.ext';simpa using h
  simp only[execOp,resolve,e1,e2,Deferred.ofValue,Sem.run_bind,Sem.run_pure,Result.andThen_ok,invoke];simpa using h5
 rw[hrun];refine⟨fun h=>by simp[fw] at h,h6.mono ?_⟩;intro e w' hR;obtain⟨b,rfl,hk⟩:=k w e w' h4 hR;have:=hk hQ hd0 (a.put (some d) (.bool b)) w' (by rw[put_defers];exact h1) (by rw[zP];exact h2) (h3.put (by omega) _) (Me.refl w' []);subst hS;simpa using this
end
theorem pq {args:List Value} {n:Nat} (hle:args.length≤n) (t:Nat) (v:Value) (hv:lk (kin args 0) t=some v):(args.toArray++Array.replicate (n - args.length) undef)[t]?=some v:=by
 obtain⟨j,h1,h2⟩:=uY args 0 t v hv;subst h1;have hj:j<args.length:=by
  rcases Nat.lt_or_ge j args.length with h|h
  ·exact h
  ·rw[List.getElem?_eq_none h] at h2;cases h2
 simp only[Nat.zero_add];rw[Array.getElem?_append_left (by simpa using hj)];simpa using h2
theorem vo {m n:Nat} {P:Program} {f:FuncId} {fn:Func} {c:Code} {args:List Value} {w:World} {R:Ending→World→Prop} (hf:P.funcs[f]?=some fn) (hb:fn.body=some c) (hn:fn.ntmps=n) (hle:Nat.ble args.length n=true)
  (k:WI none m P w [] n c (bodyPost P fn R) (kin args 0) []):CallsIn (fw none) m P f args.toArray w R:=by
 refine callsIn_of_wp hf hb trivial ?_ rfl;subst hn;have hle' : args.length≤fn.ntmps:=by simpa using hle
 exact k _ w rfl (by simp;omega) (pq hle') (Me.refl w [])
theorem uV {n:Nat} (m:Nat) {P:Program} {f:FuncId} {fn:Func} {c:Code} {args:List Value} {w:World} {R:Ending→World→Prop} (hf:P.funcs[f]?=some fn) (hb:fn.body=some c) (hn:fn.ntmps=n) (hle:Nat.ble args.length n=true)
  (k:WC P w [] n c (bodyPostM Fence.wide m P fn R) (kin args 0) []):Calls P f args.toArray w R:=by
 refine (callsIn_wide (n:=m)).1 (callsIn_of_wp_marks hf hb trivial ?_ rfl);refine wpIn_wide.2 ?_;subst hn;have hle' : args.length≤fn.ntmps:=by simpa using hle
 exact k _ w rfl (by simp;omega) (pq hle') (Me.refl w [])
def zT (ks:List Nat) (A B:World):Prop:=∀ k∈ks,B.heap[k]?=A.heap[k]?
theorem zT.trans {ks:List Nat} {A B C:World} (h:zT ks A B) (k:zT ks B C):zT ks A C:=fun i hi=>(k i hi).trans (h i hi)
theorem zT.seg {ks:List Nat} {A B:World} (h:zT ks A B) {b o:Nat} {cs:List Value} (hb:b∈ks) (hs:Seg A b o cs):Seg B b o cs:=fun i v hv=>(World.cell?_of_block (a:=⟨b,o+i,none⟩) (h b hb)).trans (hs i v hv)
theorem zT.of_mod {ks gs:List Nat} {A B:World} (h:Mod gs A B) (hk:∀ k∈ks,k<A.heap.size∧k ∉ gs):zT ks A B:=fun k hm=>h.block k (hk k hm).1 (hk k hm).2
theorem zT.put {ks:List Nat} {n:Nat} (hk:∀ k∈ks,k<n) (W:World) (l:Nat) (o o' : Obj) (hl:n≤l) (_:W.heap[l]?=some o) (_:o.isCells=false) (_:o.isWalk=false):zT ks W (W.putObj l o'):=fun k hm=>World.putObj_heap_other (by have:=hk k hm;omega)
theorem okK.far {g:Nat} {t:TypeId} {cs:List Value} {w:World} {o:Obj} (h:okK false g t cs w) (h1:w.heap[g]?=some o) (h2:o.isCells=false):False:=by
 obtain⟨t,fr,h3,_⟩:=h;rw[h1] at h3;cases h3;cases h2
theorem Ent.ok.far {e:Ent} {w:World} {o:Obj} (h:e.ok w) (hk:e.k.map=false) (h1:w.heap[e.g]?=some o) (h2:o.isCells=false):False:=by
 have h:okK e.k.map e.g e.t e.cs w:=h;rw[hk] at h;exact h.far h1 h2
theorem Me.ownM {w0:World} {gs:List Nat} {L:List Ent} {A B:World} {row:Option Nat} {n:Nat} (h:Me w0 gs L A) (hn:w0.heap.size≤n) (hg:A.grownBy B row) (hr:∀ r,row=some r→n≤r∧∃ o:Obj,A.heap[r]?=some o∧o.isCells=false)
  (hm:∀ e∈L,e.k.map=true→e.g<n):Me w0 gs L B:=by
 have hne:∀ k,k<A.heap.size→(∀ r,row=some r→k≠r)→B.heap[k]?=A.heap[k]?:=fun k hk h=>hg.block k hk (fun e=>h k e.symm rfl);have hb:Below w0.heap.size A B:=(Below.refl _ A).grown hg h.mod.size (fun k e=>Nat.le_trans hn (hr k e).1);refine⟨⟨hb.os.trans h.mod.os,hb.tape.trans h.mod.tape,hb.output.trans h.mod.output,Nat.le_trans h.mod.size hb.size,fun k hk hk2=>?_⟩,fun e he=>?_,h.mine,h.nodup⟩
 ·refine (hne k (Nat.lt_of_lt_of_le hk h.mod.size) (fun r e=>?_)).trans (h.mod.block k hk hk2);have:=(hr r e).1;omega
 ·refine (h.ok e he).keep (hne e.g (h.ok e he).lt (fun r e' hx=>?_));obtain⟨h0,o,h1,h2⟩:=hr r e';cases hk:e.k.map with
  | false=>exact (h.ok e he).far hk (by rw[hx];exact h1) h2
  | true=>have:=hm e he hk;omega
theorem Me.own {w0:World} {L:List Ent} {A B:World} {row:Option Nat} {n:Nat} (h:Me w0 [] L A) (hn:w0.heap.size≤n) (hg:A.grownBy B row) (hr:∀ r,row=some r→n≤r∧∃ o:Obj,A.heap[r]?=some o∧o.isCells=false)
  (hk:(L.all fun e=>!e.k.map)=true:=by rfl):Me w0 [] L B:=h.ownM hn hg hr (fun e he hm=>by
 have:=List.all_eq_true.1 hk e he;rw[hm] at this;cases this)
theorem Ent.ok.own {e:Ent} {A B:World} {row:Option Nat} {n:Nat} (h:e.ok A) (hg:A.grownBy B row) (hr:∀ r,row=some r→n≤r∧∃ o:Obj,A.heap[r]?=some o∧o.isCells=false) (hk:e.k.map=false:=by rfl):e.ok B:=by
 refine h.keep (hg.block e.g h.lt (fun hx=>?_));obtain⟨_,o,h1,h2⟩:=hr e.g hx.symm;exact h.far hk h1 h2
class MpT (P:Program) (t:TypeId) (kt et:outParam TypeId):Prop where
 under:P.underlying t=some (.map kt et)
def mpC (M:List (Value × Value)):List Value:=M.flatMap fun x=>[x.1,x.2]
abbrev mpE (g:Nat) (M:List (Value × Value)):Ent:=@Ent.mk g 0 (mpC M) mapK
theorem gQ:∀ {A B:List (Value × Value)},mpC A=mpC B→A=B
 | [],[],_=>rfl
 | [],b::B,h=>by simp[mpC] at h
 | a::A,[],h=>by simp[mpC] at h
 | (a1,a2)::A,(b1,b2)::B,h=>by
  have h' : a1::a2::mpC A=b1::b2::mpC B:=h;injection h' with h1 h2
  injection h2 with h2 h3
  rw[h1,h2,gQ h3]
theorem fH {g:Nat} {M:List (Value × Value)} {w:World} (h:(mpE g M).ok w):∃ es clk,w.heap[g]?=some (.map es clk)∧M=es.toList.map fun x=>(x.key,x.val):=by
 obtain⟨es,clk,h1,h2⟩ : ∃ es clk,w.heap[g]?=some (.map es clk)∧mpC M=es.toList.flatMap fun x=>[x.key,x.val]:=h;refine⟨es,clk,h1,gQ (h2.trans ?_)⟩;rw[mpC,List.flatMap_map]
theorem aaG {g:Nat} {es:Array MapEntry} {clk:Nat} {w:World} (h:w.heap[g]?=some (.map es clk)):(mpE g (es.toList.map fun x=>(x.key,x.val))).ok w:=by
 refine⟨es,clk,h,?_⟩;show mpC _=_;rw[mpC,List.flatMap_map]
theorem Lle.m {g:Nat} {M M' : List (Value × Value)} {L L' r:List Ent} (hr:Lle r L') (h:PkK mapK L g 0 (mpC M) L':=by repeat (first|exact Pk.here|apply Pk.there)) (e:M=M':=by rfl):Lle (mpE g M'::r) L:=⟨mpC M,L',h,by rw[e],hr⟩
structure tf (P:Program) (kt:TypeId) (M:List (Value × Value)):Prop where
 ok:∀ x∈M,∃ l,keyOf P kt x.1=some l
 nd:(M.map Prod.fst).Nodup
theorem my:∀ {M:List (Value × Value)},(M.map Prod.fst).Nodup→∀ {k a b:Value},(k,a)∈M→(k,b)∈M→a=b
 | [],_,_,_,_,h,_=>by cases h
 | (x,y)::M,h,k,a,b,h1,h2=>by
  rw[List.map_cons,List.nodup_cons] at h
  rcases List.mem_cons.1 h1 with e1|e1<;>rcases List.mem_cons.1 h2 with e2|e2
  ·cases e1;cases e2;rfl
  ·cases e1;exact absurd (List.mem_map.2 ⟨_,e2,rfl⟩) h.1
  ·cases e2;exact absurd (List.mem_map.2 ⟨_,e1,rfl⟩) h.1
  ·exact my h.2 e1 e2
theorem Me.turn {w0 w w' : World} {gs:List Nat} {L R:List Ent} {e e' : Ent} (h:Me w0 gs L w) (hp:L.Perm (e::R)) (hg:e'.g=e.g)
  (hos:w'.os=w.os) (htape:w'.tape=w.tape) (hout:w'.output=w.output) (hsz:w.heap.size≤w'.heap.size)
  (hne:∀ k,k<w.heap.size→k≠e.g→w'.heap[k]?=w.heap[k]?) (hok:e'.ok w'):Me w0 gs (e'::R) w':=by
 have h:=h.perm hp;have hm:=h.mine e (by simp);have hnd:=h.nodup;rw[List.map_cons,List.nodup_cons] at hnd;refine⟨⟨hos.trans h.mod.os,htape.trans h.mod.tape,hout.trans h.mod.output,Nat.le_trans h.mod.size hsz,fun k hk hn=>?_⟩,fun x hx=>?_,fun x hx=>?_,?_⟩
 ·refine (hne k (Nat.lt_of_lt_of_le hk h.mod.size) (fun e2=>?_)).trans (h.mod.block k hk hn);subst e2
  rcases hm with hm|hm
  ·omega
  ·exact hn hm
 ·rcases List.mem_cons.1 hx with rfl|hx
  ·exact hok
  ·have hok:=h.ok x (List.mem_cons_of_mem _ hx);exact hok.keep (hne x.g hok.lt (fun e2=>hnd.1 (e2 ▸ List.mem_map.2 ⟨x,hx,rfl⟩)))
 ·rcases List.mem_cons.1 hx with rfl|hx
  ·rw[hg];exact hm
  ·exact h.mine x (List.mem_cons_of_mem _ hx)
 ·rw[List.map_cons,List.nodup_cons,hg];exact hnd
theorem Me.allocM {w0 w:World} {gs:List Nat} {L:List Ent} (h:Me w0 gs L w):Me w0 gs (mpE w.heap.size []::L) (w.alloc (.map #[] 0)):=by
 have h':=h.below ((Below.refl w.heap.size w).alloc (Nat.le_refl _) (.map #[] 0));refine⟨h'.mod,?_,?_,?_⟩
 ·intro e he
  rcases List.mem_cons.1 he with rfl|he
  ·exact aaG (es:=#[]) (heap_alloc_new w _)
  ·exact h'.ok e he
 ·intro e he
  rcases List.mem_cons.1 he with rfl|he
  ·exact .inl h.mod.size
  ·exact h.mine e he
 ·rw[List.map_cons,List.nodup_cons];refine⟨fun hm=>?_,h.nodup⟩;obtain⟨e,he,hg⟩:=List.mem_map.1 hm;have:=(h.ok e he).lt;simp only at hg;omega
section
variable {P:Program} {w0:World} {gs:List Nat} {n:Nat} {ops:List Oper} {Q:Exit→Act→World→Prop} {K:List (Nat × Value)} {L:List Ent} {rest:List Oper}
variable {d:Nat} {ty:TypeId} {pos:String} {after:Array Edge} {gd:Option (Nat × Bool)}
theorem Mr.mp {g:Nat} {M:List (Value × Value)} (h:mpE g M∈L):∀ w,Mr w0 gs L w→(mpE g M).ok w:=fun _ hw=>hw.ok _ h
theorem pv {g:Nat} {M:List (Value × Value)} (h:(mpE g M).ok w0) (hg:g ∉ gs):∀ w,Mr w0 gs L w→(mpE g M).ok w:=fun _ hw=>h.keep (hw.mod.block g h.lt hg)
theorem pT {kt:TypeId} (law:WideMaps.KeyLaw P kt) {M:List (Value × Value)} {es:Array MapEntry} (he:M=es.toList.map fun x=>(x.key,x.val)) (hM:tf P kt M) {kv:Value} (hk:∃ l,keyOf P kt kv=some l) (w:World) :
  ((Instr.findKey kt kv es.toList).run P w=.ok none w∧∀ v,(kv,v) ∉ M)∨∃ j v,(Instr.findKey kt kv es.toList).run P w=.ok (some (j,v)) w∧(kv,v)∈M:=by
 obtain⟨l,hl⟩:=hk;subst he;have hall:∀ e∈es.toList,∃ l,keyOf P kt e.key=some l:=fun e he=>hM.ok (e.key,e.val) (List.mem_map.2 ⟨e,he,rfl⟩)
 rcases law.find w hl es.toList hall with ⟨h1,h2⟩|⟨j,e,h1,h2,h3⟩
 ·refine .inl ⟨h1,fun v hv=>?_⟩;obtain⟨e,he,heq⟩:=List.mem_map.1 hv;exact h2 e he (congrArg Prod.fst heq)
 ·refine .inr ⟨j,e.val,h1,?_⟩;rw[← h3];exact List.mem_map.2 ⟨e,List.mem_of_getElem? h2,rfl⟩
section
variable {t kt et:TypeId} {g:Nat} {M:List (Value × Value)} {x y z:Operand} {kv v:Value} [hmp:MpT P t kt et]
include hmp
theorem qq (w:World):(underlying t).run P w=.ok (.map kt et) w:=by simp[underlying,MpT.under (P:=P) (t:=t)]
theorem tb (law:WideMaps.KeyLaw P kt) (hx:ev K x=some (.map (some g))) (hy:ev K y=some kv) (hm:∀ w,Mr w0 gs L w→(mpE g M).ok w) (hM:tf P kt M) (hk:∃ l,keyOf P kt kv=some l) (hin:(kv,v)∈M) :
  Does P w0 gs K L (.lookup t x y true) ty (.tuple #[v,.bool true]):=by
 intro a w hkn hme o ho _;obtain⟨es,clk,h1,h2⟩:=fH (hm w hme);have hg:(getObj g).run P w=.ok (.map es clk) w:=by simp[getObj,Sem.run,h1]
 obtain⟨l,hl⟩:=id hk;have hc:=law.check w es.isEmpty hl
 rcases pT law h2 hM hk w with ⟨h3,h4⟩|⟨j,u,h3,h4⟩
 ·exact absurd hin (h4 v)
 ·have e:=my hM.nd h4 hin;subst e;simp only[execOp,ho,hkn.eval hx,hkn.eval hy,Instr.lookup,Sem.run_bind,qq (P:=P) (t:=t),Result.andThen_ok,hg,Sem.run_pure,hc,h3];rfl
theorem sF [ZeT P et v] (law:WideMaps.KeyLaw P kt) (hx:ev K x=some (.map (some g))) (hy:ev K y=some kv) (hm:∀ w,Mr w0 gs L w→(mpE g M).ok w) (hM:tf P kt M) (hk:∃ l,keyOf P kt kv=some l) (hno:∀ u,(kv,u) ∉ M) :
  Does P w0 gs K L (.lookup t x y true) ty (.tuple #[v,.bool false]):=by
 intro a w hkn hme o ho _;obtain⟨es,clk,h1,h2⟩:=fH (hm w hme);have hg:(getObj g).run P w=.ok (.map es clk) w:=by simp[getObj,Sem.run,h1]
 obtain⟨l,hl⟩:=id hk;have hc:=law.check w es.isEmpty hl
 rcases pT law h2 hM hk w with ⟨h3,h4⟩|⟨j,u,h3,h4⟩
 ·simp only[execOp,ho,hkn.eval hx,hkn.eval hy,Instr.lookup,Sem.run_bind,qq (P:=P) (t:=t),Result.andThen_ok,hg,Sem.run_pure,hc,h3,ZeT.zero (P:=P) (t:=et)];rfl
 ·exact absurd h4 (hno u)
theorem iS {L2:List Ent} (law:WideMaps.KeyLaw P kt) (hx:ev K x=some (.map (some g))) (hy:ev K y=some kv) (hz:ev K z=some v) (hp:PkK mapK L g 0 (mpC M) L2) (hM:tf P kt M) (hk:∃ l,keyOf P kt kv=some l) (hno:∀ u,(kv,u) ∉ M) :
  rS P w0 gs K L (.mapUpdate t x y z) ty (mpE g (M++[(kv,v)])::L2):=by
 intro a w hkn hme o ho _;have hpm:=hp.perm;obtain⟨es,clk,h1,h2⟩:=fH (g:=g) (M:=M) (hme.ok _ (hpm.mem_iff.2 List.mem_cons_self));have hg:(getObj g).run P w=.ok (.map es clk) w:=by simp[getObj,Sem.run,h1]
 obtain⟨l,hl⟩:=id hk;have hc:=law.check w false hl
 rcases pT law h2 hM hk w with ⟨h3,h4⟩|⟨j,u,h3,h4⟩
 ·have hs:(setObj g (.map (es.push { key:=kv,val:=v,born:=clk }) (clk+1))).run P w=.ok () { w with heap:=w.heap.setIfInBounds g (.map (es.push { key:=kv,val:=v,born:=clk }) (clk+1)) }:=by
   simp[setObj,Sem.run,h1]
  refine⟨{ w with heap:=w.heap.setIfInBounds g (.map (es.push { key:=kv,val:=v,born:=clk }) (clk+1)) },?_,hme.turn hpm rfl rfl rfl rfl (Nat.le_of_eq (by simp)) (fun k _ hk=>?_) ?_⟩
  ·simp only[execOp,ho,hkn.eval hx,hkn.eval hy,hkn.eval hz,Instr.mapUpdate,Sem.run_bind,qq (P:=P) (t:=t),Result.andThen_ok,hg,Sem.run_pure,hc,h3,hs]
  ·simp only[Array.getElem?_setIfInBounds_ne (fun e=>hk e.symm)]
  ·have hlt:g<w.heap.size:=by
    rcases Nat.lt_or_ge g w.heap.size with h|h
    ·exact h
    ·rw[Array.getElem?_eq_none h] at h1;cases h1
   have:=aaG (g:=g) (w:={ w with heap:=w.heap.setIfInBounds g (.map (es.push { key:=kv,val:=v,born:=clk }) (clk+1)) }) (es:=es.push { key:=kv,val:=v,born:=clk }) (clk:=clk+1) (by simp[hlt]);rw[h2];simpa using this
 ·exact absurd h4 (hno u)
omit hmp in
theorem WO.makesMap (k:∀ g,WO P w0 gs n ops Q ((d,.map (some g))::K) (mpE g []::L) rest) (hd:Nat.blt d n=true:=by rfl) (hw:wk ops K gd=some true:=by rfl) :
  WO P w0 gs n ops Q K L (⟨some d,.makeMap t none,ty,pos,after,gd⟩::rest):=fun a w hdf hsz hk hme =>
 dQ (by simpa [Nat.blt_eq] using hd) hw hdf hsz hk (by simp only[execOp,Option.map_none,Sem.run_bind,run_makeMap,Result.andThen_ok,Sem.run_pure]) hme.allocM (k _)
end
end
end Sx
end
end Go.Proofs.YteibfbjpkjkejaaGreatDoor
