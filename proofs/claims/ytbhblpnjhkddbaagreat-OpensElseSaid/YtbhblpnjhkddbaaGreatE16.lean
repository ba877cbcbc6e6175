/- Part 16 of the proof. -/
import Derived.Test.YtbhblpnjhkddbaaGreatE07
set_option linter.unusedSimpArgs false
set_option linter.unusedVariables false
namespace Go.Proofs.YtbhblpnjhkddbaaGreat
section
open Go Go.RowKit Go.BigFrame
namespace Sx
section
variable {P:Program} {w0:World} {gs:List Nat} {n:Nat} {ops:List Oper} {Q:Exit→Act→World→Prop} {K:List (Nat × Value)} {L:List Ent} {rest:List Oper}
theorem WO.ndp (k:(L.map Ent.g).Nodup→WO P w0 gs n ops Q K L rest):WO P w0 gs n ops Q K L rest:=fun a w h1 h2 h3 h4=>k h4.nodup a w h1 h2 h3 h4
theorem WC.ndp' {c:Code} (k:(L.map Ent.g).Nodup→WC P w0 gs n c Q K L):WC P w0 gs n c Q K L:=fun a w h1 h2 h3 h4=>k h4.nodup a w h1 h2 h3 h4
theorem WO.mine (k:(∀ e∈L,w0.heap.size≤e.g∨e.g∈gs)→WO P w0 gs n ops Q K L rest):WO P w0 gs n ops Q K L rest:=fun a w h1 h2 h3 h4=>k h4.mine a w h1 h2 h3 h4
theorem WC.mine {c:Code} (k:(∀ e∈L,w0.heap.size≤e.g∨e.g∈gs)→WC P w0 gs n c Q K L):WC P w0 gs n c Q K L:=fun a w h1 h2 h3 h4=>k h4.mine a w h1 h2 h3 h4
end
def RdP (v:Value) (X:List Nat) (w:World):Prop :=
 ∃ p c,v=.slice p X.length c∧X.length≤c∧c<9223372036854775808∧((p=none∧X=[])∨∃ b o,p=some ⟨b,o,none⟩∧b<w.heap.size∧Seg w b o (byC X))
theorem RdP.rdN {v:Value} {X:List Nat} {w0 w:World} {L:List Ent} {g:Nat} (h:RdP v X w0) (hg:w0.heap.size≤g) (hm:Mr w0 [] L w):RdN g v X.length (byC X) w:=by
 obtain⟨p,c,rfl,h1,h2,h3⟩:=h;refine⟨p,c,rfl,h1,h2,zf X,h3.imp (fun ⟨e1,e2⟩=>⟨e1,by rw[e2];rfl⟩) (fun ⟨b,o,e,hb,hs⟩=>⟨b,o,e,by omega,hs.mod hm.mod (by simp)⟩)⟩
theorem RdP.rd {v:Value} {X:List Nat} {w:World} (h:RdP v X w):Rd v X.length (byC X) w:=by
 obtain⟨p,c,rfl,h1,h2,h3⟩:=h;refine⟨p,c,rfl,h3.imp (fun ⟨e1,e2⟩=>⟨e1,by rw[e2];rfl,by rw[e2];rfl⟩) (fun ⟨b,o,e,_,hs⟩=>⟨b,o,e,hs⟩)⟩
theorem RdP.own {w0 w:World} {gs:List Nat} {L:List Ent} {g t c:Nat} {X:List Nat} {r:List Value} (hm:Mr w0 gs L w) (h:Hs L g t (byC X++r)) (hc:X.length≤c) (hc2:c<9223372036854775808):RdP (.slice (some ⟨g,0,none⟩) X.length c) X w :=
 ⟨_,c,rfl,hc,hc2,.inr ⟨g,0,rfl,(hm.ok _ h.mem).lt,(h.seg hm).sub (k:=0) (m:=X.length) (by unfold cut;rw[List.drop_zero,List.take_append_of_le_length (by rw[zf];omega),List.take_of_length_le (by rw[zf];omega)])⟩⟩
theorem RdP.own0 {w0 w:World} {gs:List Nat} {L:List Ent} {g t c:Nat} {X:List Nat} (hm:Mr w0 gs L w) (h:Hs L g t (byC X)) (hc:X.length≤c) (hc2:c<9223372036854775808):RdP (.slice (some ⟨g,0,none⟩) X.length c) X w :=
 RdP.own (r:=[]) hm (by rw[List.append_nil];exact h) hc hc2
theorem RdP.ne {v:Value} {X:List Nat} {w:World} {g:Nat} (h:RdP v X w) (hg:∀ b o n c,v=.slice (some ⟨b,o,none⟩) n c→b≠g):RdN g v X.length (byC X) w:=by
 obtain⟨p,c,rfl,h1,h2,h3⟩:=h;refine⟨p,c,rfl,h1,h2,zf X,h3.imp (fun ⟨e1,e2⟩=>⟨e1,by rw[e2];rfl⟩) (fun ⟨b,o,e,hb,hs⟩=>⟨b,o,e,hg b o _ _ (by rw[e]),hs⟩)⟩
theorem RdN.own {w0 w:World} {gs:List Nat} {L:List Ent} {g gS t c:Nat} {X:List Nat} {r:List Value} (hm:Mr w0 gs L w) (h:Hs L g t (byC X++r)) (hne:g≠gS) (hc:X.length≤c) (hc2:c<9223372036854775808):RdN gS (.slice (some ⟨g,0,none⟩) X.length c) X.length (byC X) w :=
 (RdP.own hm h hc hc2).ne (fun b o n c e=>by cases e;exact hne)
theorem RdN.own0 {w0 w:World} {gs:List Nat} {L:List Ent} {g gS t c:Nat} {X:List Nat} (hm:Mr w0 gs L w) (h:Hs L g t (byC X)) (hne:g≠gS) (hc:X.length≤c) (hc2:c<9223372036854775808):RdN gS (.slice (some ⟨g,0,none⟩) X.length c) X.length (byC X) w :=
 (RdP.own0 hm h hc hc2).ne (fun b o n c e=>by cases e;exact hne)
def zS (vs:List Value) (Ps:List (List Nat)) (w:World):Prop:=vs.length=Ps.length∧∀ (i:Nat) (v:Value) (X:List Nat),vs[i]?=some v→Ps[i]?=some X→RdP v X w
theorem zS.nil {w:World}:zS [] [] w:=⟨rfl,fun i v X h1 _=>by simp at h1⟩
theorem zS.cons {v:Value} {vs:List Value} {X:List Nat} {Ps:List (List Nat)} {w:World} (h:RdP v X w) (hs:zS vs Ps w):zS (v::vs) (X::Ps) w :=
 ⟨by simp[hs.1],fun i u Y h1 h2=>by
  cases i with
  | zero=>simp at h1 h2;subst h1;subst h2;exact h
  | succ i=>simp at h1 h2;exact hs.2 i u Y h1 h2⟩
theorem zS.snoc {v:Value} {vs:List Value} {X:List Nat} {Ps:List (List Nat)} {w:World} (h:RdP v X w) (hs:zS vs Ps w):zS (vs++[v]) (Ps++[X]) w :=
 ⟨by simp[hs.1],fun i u Y h1 h2=>by
  have h0:=hs.1
  rcases Nat.lt_trichotomy i vs.length with hi|hi|hi
  ·rw[List.getElem?_append_left hi] at h1;rw[List.getElem?_append_left (by omega)] at h2;exact hs.2 i u Y h1 h2
  ·rw[List.getElem?_append_right (by omega)] at h1;rw[List.getElem?_append_right (by omega)] at h2;rw[hi,Nat.sub_self] at h1;rw[show i - Ps.length=0 by omega] at h2;simp at h1 h2;subst h1;subst h2;exact h
  ·rw[List.getElem?_append_right (by omega)] at h1;rw[List.getElem?_eq_none (by simp;omega)] at h1;cases h1⟩
def uS (s:List Nat) (n:Nat):List Nat:=be 4 s.length++s++be 4 n
def yT (Ps:List (List Nat)):List Nat:=Ps.flatMap fun p=>be 4 p.length++p
theorem qI (Ps:List (List Nat)) (X:List Nat):yT (Ps++[X])=yT Ps++be 4 X.length++X:=by simp[yT]
theorem qQ {Ps:List (List Nat)} {i:Nat} {X:List Nat} (h:Ps[i]?=some X):yT (Ps.take (i+1))=yT (Ps.take i)++be 4 X.length++X:=by
 rw[List.take_add_one,h];exact qI _ _
theorem fK (Ps Qs:List (List Nat)):yT (Ps++Qs)=yT Ps++yT Qs:=by simp[yT]
def yM (s:List Nat) (Ps:List (List Nat)):List Nat:=uS s Ps.length++yT Ps
def hOf (s:List Nat) (Ps:List (List Nat)):List Nat:=Sha.sum (yM s Ps)
theorem ul {wd x:Nat}:∀ b∈be wd x,b<256:=by
 intro b hb;unfold be at hb;obtain⟨j,_,rfl⟩:=List.mem_map.1 hb;exact Nat.mod_lt _ (by omega)
theorem dU {Ps:List (List Nat)} {i:Nat} {X:List Nat} (h:Ps[i]?=some X):(yT (Ps.take i)).length+4+X.length≤(yT Ps).length:=by
 have h1:=qQ h;have h2:=fK (Ps.take (i+1)) (Ps.drop (i+1));rw[List.take_append_drop] at h2;rw[h2,h1];simp only[List.length_append,zh];omega
theorem abJ {l xs:List Nat} {off b:Nat} (h1:∀ y∈l,y<b) (h2:∀ y∈xs,y<b):∀ y∈ovN l off xs,y<b:=by
 intro y hy;unfold ovN at hy
 rcases List.mem_append.1 hy with hy|hy
 ·rcases List.mem_append.1 hy with hy|hy
  ·exact h1 y (List.mem_of_mem_take hy)
  ·exact h2 y hy
 ·exact h1 y (List.mem_of_mem_drop hy)
theorem bv:∀ (k:Nat) {s buf X:List Nat} {n:Nat},X.length≤k→(∀ y∈buf,y<256)→(∀ y∈X,y<256)→∀ y∈(wr s buf n X).2.1,y<256
 | 0,s,buf,X,n,hk,h1,h2=>by
  have:X=[]:=List.eq_nil_of_length_eq_zero (by omega);subst this;rw[nv];exact h1
 | k+1,s,buf,X,n,hk,h1,h2=>by
  by_cases hX:X=[]
  ·subst hX;rw[nv];exact h1
  ·have hp:=pR (n:=n) hX;have:=List.length_pos_iff.2 hX;rw[nX hX];exact bv k (by rw[List.length_drop];omega) (abJ h1 (tk h2 _)) (vC h2 _)
theorem acb (x:Nat):Sha.be8 x=be 8 x:=by
 simp only[Sha.be8,be,List.range_succ,List.range_zero,List.nil_append,List.cons_append,List.map_cons,List.map_nil,Nat.reduceMul,Nat.reduceSub,Nat.reducePow,Nat.div_one]
def mH (n:Nat):List Nat:=128::List.replicate (Sha.pad n) 0++be 8 (8*n)
theorem aC {m:List Nat} (h:8*m.length<18446744073709551616):Sha.padded m=m++mH m.length:=by
 unfold Sha.padded mH;rw[Nat.mod_eq_of_lt h,acb];simp
theorem y9 (n:Nat):(mH n).length=Sha.pad n+9:=by simp[mH,zh]
theorem aE (n:Nat):∀ x∈mH n,x<256:=by
 intro x hx;unfold mH at hx
 rcases List.mem_append.1 hx with hx|hx
 ·rcases List.mem_cons.1 hx with rfl|hx
  ·omega
  ·have:=List.eq_of_mem_replicate hx;omega
 ·unfold be at hx;obtain⟨j,_,rfl⟩:=List.mem_map.1 hx;exact Nat.mod_lt _ (by omega)
theorem dD {n l:Nat} (h1:1≤l) (h2:l≤Sha.pad n+1):(n+l)%64=56↔l=Sha.pad n+1:=by
 unfold Sha.pad at *;omega
theorem ue (s:List Nat):(Sha.outs s).length=4*s.length:=by
 induction s with
 | nil=>rfl
 | cons x s ih =>
  have:Sha.outs (x::s)=[x / 16777216%256,x / 65536%256,x / 256%256,x%256]++Sha.outs s:=by simp[Sha.outs]
  rw[this,List.length_append,ih];simp;omega
theorem aL (s:List Nat):Sha.outs s=beL 4 s:=by
 unfold Sha.outs beL;congr 1;funext x;simp only[be,List.range_succ,List.range_zero,List.nil_append,List.cons_append,List.map_cons,List.map_nil,Nat.reduceMul,Nat.reduceSub,Nat.reducePow,Nat.div_one]
theorem eK {s:List Nat} {i:Nat} (h:i<4*s.length):(Sha.outs s)[i]?=some (s.getD (i / 4) 0 / 2 ^ (8*(3 - i%4))%256):=by
 have hi:i / 4<s.length:=by omega
 have hm:i%4<4:=Nat.mod_lt _ (by omega);have:=mc (wd:=4) hm hi;rw[aL];rw[show i / 4*4+i%4=i by omega] at this;rw[this];simp[List.getD,hi]
def Qk (k:Act→World→Prop) (Q:Exit→Act→World→Prop):Exit→Act→World→Prop
 | .normal,a,w=>k a w
 | e,a,w=>Q e a w
theorem Qk.out {k:Act→World→Prop} {Q:Exit→Act→World→Prop} (h:LetsOut (Qk k Q)):LetsOut Q:=h
theorem aS {P:Program} {o:Oper} {a:Act} {w:World} {k:Act→World→Prop} {Q:Exit→Act→World→Prop} (h:o.wp P a w (fun a w=>Qk k Q .normal a w) (Qk k Q)):o.wp P a w k Q:=by
 unfold Oper.wp at *;generalize (execOp a.eval o).run P w=r at *;cases r with
 | ok n w' =>
  cases n<;>simp only[Oper.upon] at h ⊢<;>first|exact h|exact Calls.mono h (fun e w'' he=>by cases e<;>first|exact he|exact Qk.out he)
 | halt x w'=>cases x<;>simp only[Oper.upon] at h ⊢<;>exact h
theorem mG {P:Program} {ops:Array Oper} {i:Nat} {o:Oper} {a:Act} {w:World} {k:Act→World→Prop} {Q:Exit→Act→World→Prop} (ho:ops[i]?=some o) (h:wpList P ops (Qk k Q) [o] a w):wpOp P ops Q i k a w:=by
 unfold wpOp;rw[ho];unfold wpList at h
 split at h
 ·rename_i hw;simp only[hw,if_true];exact h.imp (fun h=>aS h) (fun h=>⟨h.1,Qk.out h.2⟩)
 ·rename_i hw;simp only[hw];exact h
section
variable (P:Program) (w0:World) (gs:List Nat) (n:Nat) (ops:List Oper) (Q:Exit→Act→World→Prop) (K:List (Nat × Value)) (L:List Ent)
def WA (S:List Bool) (f:Nat):Prop:=∀ a w,a.defers=[]→a.tmps.size=n→Kn K a→Me w0 gs L w→wpAny P .any ops.toArray Q f S.toArray a w
def en (S:List Bool) (f:Nat):List Nat→Prop
 | []=>True
 | i::r=>(∃ o,nth ops i=some o∧WO P w0 gs n ops (Qk (wpAny P .any ops.toArray Q f (S.set i true).toArray) Q) K L [o])∧en S f r
end
section
variable {P:Program} {w0:World} {gs:List Nat} {n:Nat} {ops:List Oper} {Q:Exit→Act→World→Prop} {K:List (Nat × Value)} {L:List Ent}
theorem en.at {S:List Bool} {f:Nat}:∀ {rs:List Nat},en P w0 gs n ops Q K L S f rs→∀ i∈rs,∃ o,nth ops i=some o∧WO P w0 gs n ops (Qk (wpAny P .any ops.toArray Q f (S.set i true).toArray) Q) K L [o]
 | i::r,h,j,hj=>by
  rcases List.mem_cons.1 hj with rfl|hj
  ·exact h.1
  ·exact en.at h.2 j hj
theorem WA.step {S:List Bool} {f:Nat} (rs:List Nat) (k:en P w0 gs n ops Q K L S f rs) (hr:Region.ready .any ops.toArray S.toArray=rs:=by decide +kernel) (hne:rs≠[]:=by decide):WA P w0 gs n ops Q K L S (f+1):=by
 intro a w h1 h2 h3 h4;refine⟨fun h0=>absurd (hr.symm.trans h0) hne,fun i hi=>?_⟩;rw[hr] at hi;obtain⟨o,ho,hk⟩:=k.at i hi;have:=mG (k:=wpAny P .any ops.toArray Q f (S.set i true).toArray) (Q:=Q) (ops:=ops.toArray) (i:=i) (o:=o) (P:=P) (by simpa [vp] using ho) (hk a w h1 h2 h3 h4);simpa using this
theorem WA.done {S:List Bool} (k:WX w0 gs n .normal Q K L) (hr:Region.ready .any ops.toArray S.toArray=[]:=by decide +kernel):WA P w0 gs n ops Q K L S 0:=fun a w h1 h2 h3 h4=>⟨hr,k a w h1 h2 h3 h4⟩
theorem en.nil {S:List Bool} {f:Nat}:en P w0 gs n ops Q K L S f []:=trivial
theorem en.cons {S:List Bool} {f i:Nat} {r:List Nat} {o:Oper} (k:WO P w0 gs n ops (Qk (wpAny P .any ops.toArray Q f (S.set i true).toArray) Q) K L [o]) (kr:en P w0 gs n ops Q K L S f r) (ho:nth ops i=some o:=by rfl):en P w0 gs n ops Q K L S f (i::r):=⟨⟨o,ho,k⟩,kr⟩
theorem WX.wa {S S' : List Bool} {f i:Nat} {Q' : Exit→Act→World→Prop} (k:WA P w0 gs n ops Q K L S' f) (hS:S.set i true=S':=by rfl):WX w0 gs n .normal (Qk (wpAny P .any ops.toArray Q f (S.set i true).toArray) Q') K L:=by
 subst hS;exact k
theorem WA.less {S:List Bool} {f:Nat} (K' : List (Nat × Value)) (L' : List Ent) (k:WA P w0 gs n ops Q K' L' S f)
  (hk:Kle K' K:=by (repeat (first|exact Kle.nil|refine Kle.cons rfl rfl ?_)))
  (hl:Lle L' L:=by (repeat (first|exact Lle.nil|refine Lle.c ?_))):WA P w0 gs n ops Q K L S f:=fun a w h1 h2 h3 h4=>k a w h1 h2 (hk.kn h3) (hl.me h4)
def bt:Nat→Nat→List Bool
 | 0,_=>[]
 | n+1,m=>(m%2 == 1)::bt n (m / 2)
theorem WA.go {S S' : List Bool} {f i:Nat} {K' : List (Nat × Value)} {L' : List Ent} {Q' : Exit→Act→World→Prop} {A:List (Nat × Value)→List Ent→List Bool→Nat→Prop} (hA:∀ K L S f,A K L S f↔WA P w0 gs n ops Q K L S f) (h:A K' L' S' f)
  (hk:Kle K' K:=by (repeat (first|exact Kle.nil|refine Kle.cons rfl rfl ?_)))
  (hl:Lle L' L:=by (repeat (first|exact Lle.nil|refine Lle.c ?_))) (hS:S.set i true=S':=by rfl):WO P w0 gs n ops (Qk (wpAny P .any ops.toArray Q f (S.set i true).toArray) Q') K L []:=WO.nil (WX.wa (WA.less K' L' ((hA _ _ _ _).1 h) hk hl) hS)
theorem Me.drawn {w:World} {d:Nat} (h:Me w0 gs L w):Me w0 gs L { w with drawn:=d } :=
 ⟨⟨h.mod.os,h.mod.tape,h.mod.output,h.mod.size,h.mod.block⟩,h.ok,h.mine,h.nodup⟩
theorem WC.all {id:Nat} {l:List Oper} [Mix P] (k:WA P w0 gs n l Q K L (List.replicate l.length false) l.length):WC P w0 gs n (.region id l.toArray true) Q K L:=by
 intro a w h1 h2 h3 h4;refine wp_region_any Mix.out ?_;have:=k a { w with drawn:=w.drawn+1 } h1 h2 h3 h4.drawn;simpa using this
theorem WC.allA {id:Nat} {l:List Oper} [Mix P] (k:∀ A:List (Nat × Value)→List Ent→List Bool→Nat→Prop,(∀ K L S f,A K L S f↔WA P w0 gs n l Q K L S f)→A K L (List.replicate l.length false) l.length):WC P w0 gs n (.region id l.toArray true) Q K L :=
 WC.all ((k _ (fun _ _ _ _=>Iff.rfl)))
end
def FnI (P:Program) (f:FuncId) (args:List Value) (g t:Nat) (C:List Value→Prop) (R:World→Prop) (v:Value):Prop :=
 ∀ w cs,C cs→(⟨g,t,cs⟩ : Ent).ok w→R w→Calls P f args.toArray w (fun e w'=>e=.returned v∧Mod [g] w w'∧∃ cs',C cs'∧(⟨g,t,cs'⟩ : Ent).ok w')
def abD (w:World) (g t:Nat) (C:List Value→Prop) (v:Value):Ending→World→Prop:=fun e w'=>e=.returned v∧Mod [g] w w'∧∃ cs',C cs'∧(⟨g,t,cs'⟩ : Ent).ok w'
theorem FnI.enter {P:Program} {n:Nat} {f:FuncId} {fn:Func} {c:Code} {args:List Value} {g t:Nat} {C:List Value→Prop} {R:World→Prop} {v:Value} (hf:P.funcs[f]?=some fn) (hb:fn.body=some c) (hn:fn.ntmps=n) (hle:Nat.ble args.length n=true)
  (k:∀ w cs,C cs→R w→WC P w [g] n c (bodyPost P fn (abD w g t C v)) (kin args 0) [⟨g,t,cs⟩]):FnI P f args g t C R v:=by
 intro w cs hC hok hw;refine calls_of_wp hf hb ?_;have hle' : args.length≤n:=by simpa using hle
 refine k w cs hC hw _ w rfl (by simp[hn];omega) (fun t v hv=>?_) ⟨.refl _ _,by simpa using hok,by simp,by simp⟩;obtain⟨j,h1,h2⟩:=uR args 0 t v hv;subst h1;have hj:j<args.length:=by
  rcases Nat.lt_or_ge j args.length with h|h
  ·exact h
  ·rw[List.getElem?_eq_none h] at h2;cases h2
 simp only[Nat.zero_add];rw[Array.getElem?_append_left (by simpa using hj)];simpa using h2
section
variable {P:Program} {w0:World} {gs:List Nat} {n:Nat} {ops:List Oper} {Q:Exit→Act→World→Prop} {K:List (Nat × Value)} {L:List Ent} {rest:List Oper}
variable {d:Nat} {op:Op} {ty:TypeId} {pos:String} {after:Array Edge} {gd:Option (Nat × Bool)}
theorem WO.callI {f:FuncId} [Cal P f] {x:Operand} {xs:Array Operand} {ats:Array TypeId} {aq fs ks aq' : List Value} {g t:Nat} {C:List Value→Prop} {cs:List Value} {L2:List Ent} {R:World→Prop} {v:Value} (hc:FnI P f aq' g t C R v) (hx:ev K x=some (.func (.func f) fs.toArray ks.toArray))
  (ha:evs K xs.toList=some aq) (hh:fs++aq++ks=aq') (hp:Pk L g t cs L2) (hC:C cs) (hR:∀ w,Me w0 gs L w→R w) (ht:t≠0)
  (k:∀ cs',C cs'→WO P w0 gs n ops Q ((d,v)::K) (⟨g,t,cs'⟩::L2) rest) (hd:Nat.blt d n=true) (hw:wk ops K gd=some true) :
  WO P w0 gs n ops Q K L (⟨some d,.call { callee:=.value x,args:=xs,argTypes:=ats },ty,pos,after,gd⟩::rest):=by
 subst hh;intro a w hdf hsz hk hme;refine wpList_step fun F hF=>?_;rw[if_pos (z6 (o:=⟨some d,.call { callee:=.value x,args:=xs,argTypes:=ats },ty,pos,after,gd⟩) hk hw)];have hd' : d<n:=by simpa [Nat.blt_eq] using hd
 unfold Oper.wp;rw[ug hk hx ha,Oper.upon_enter];have hme2:=hme.perm hp.perm;refine (hc w cs hC (hme2.ok _ (by simp)) (hR w hme)).mono ?_;rintro e w' ⟨rfl,hm,cs',hC',hok⟩;exact hF _ _ (k cs' hC' _ _ (by rw[put_defers];exact hdf) (by rw[yj];exact hsz) (hk.put (by omega) v) (hme2.callM Rp.here hm hok ht))
theorem WX.retI {fn:Func} {g t:Nat} {C:List Value→Prop} {cs:List Value} {v:Value} (hr:∀ a w,Kn K a→Me w0 [g] L w→(results fn a.tmps).run P w=.ok v w) (hN:Hs L g t cs) (hC:C cs):WX w0 [g] n .ret (bodyPost P fn (abD w0 g t C v)) K L:=fun a w h1 _ h3 h4 =>
 ⟨h1,v,hr a w h3 h4,rfl,h4.mod,cs,hC,h4.ok _ hN.mem⟩
end
theorem yE (a:Act) (d:Option Tmp) (v:Value) {t:Nat} (h:d≠some t):(a.put d v).tmps[t]?=a.tmps[t]?:=by
 cases d with
 | none=>rfl
 | some d =>
  simp only[Act.put];rw[Array.getElem?_setIfInBounds];rw[if_neg (fun e=>h (by rw[e]))]
theorem oR {P:Program} {ops:Array Oper} {Q:Exit→Act→World→Prop} {i:Nat} {o:Oper} {a:Act} {w:World} {K:Act→World→Prop} (ho:ops[i]?=some o) (h:wpOp P ops Q i K a w) :
  wpOp P ops Q i (fun a' w'=>K a' w'∧∀ t,o.dst≠some t→a'.tmps[t]?=a.tmps[t]?) a w:=by
 unfold wpOp at *;simp only[ho] at h ⊢
 split at h
 ·rename_i hw;rw[if_pos hw];refine h.imp (fun h=>?_) id;unfold Oper.wp at *;generalize (execOp a.eval o).run P w=r at *;cases r with
  | ok n w' =>
   cases n with
   | value v=>exact⟨h,fun t ht=>yE _ _ _ ht⟩
   | skip=>exact⟨h,fun t ht=>yE _ _ _ ht⟩
   | defer d=>exact⟨h,fun t ht=>yE _ _ _ ht⟩
   | enter f args =>
    refine Calls.mono h (fun e w'' he=>?_);cases e with
    | returned v=>exact⟨he,fun t ht=>yE _ _ _ ht⟩
    | panicked c=>exact he
    | outgrown=>exact he
   | row r args=>exact Rows.mono h (fun v w'' he=>⟨he,fun t ht=>yE _ _ _ ht⟩)
   | _=>exact h
  | halt x w'=>cases x<;>exact h
 ·rename_i hw;rw[if_neg hw];exact⟨h,fun t ht=>yE _ _ _ ht⟩
def dps (ops:List Oper) (i:Nat):List Nat:=match nth ops i with
 | none=>[]
 | some o=>(o.after.toList.filter fun e=>Region.binds .any e).map fun e=>e.on
def r8 (ops:List Oper) (i:Nat):Nat:=match nth ops i with
 | some ⟨some d,_,_,_,_,_⟩=>d
 | _=>0
def lp (ops:List Oper) (i:Nat):Bool:=match nth ops i with
 | some ⟨some _,_,_,_,_,none⟩=>true
 | _=>false
def tvs (ops:List Oper) (T:List (Nat × Value)):List Nat→List (Nat × Value)
 | []=>[]
 | j::r=>match lk T j with
  | some v=>(r8 ops j,v)::tvs ops T r
  | none=>tvs ops T r
theorem oQ {ops:List Oper} {T:List (Nat × Value)} {a:Act}:∀ {l:List Nat},(∀ j∈l,∀ v,lk T j=some v→a.tmps[r8 ops j]?=some v)→Kn (tvs ops T l) a
 | [],_,t,v,h=>by cases h
 | j::r,h,t,v,ht=>by
  have ih:=oQ (ops:=ops) (T:=T) (a:=a) (l:=r) (fun k hk=>h k (by simp[hk]));unfold tvs at ht;cases hl:lk T j with
  | none=>rw[hl] at ht;exact ih t v ht
  | some u =>
   rw[hl] at ht;unfold lk at ht;cases hb:Nat.beq (r8 ops j) t with
   | true =>
    rw[hb] at ht;have e:r8 ops j=t:=Nat.eq_of_beq_eq_true hb;cases ht;rw[← e];exact h j (by simp) _ hl
   | false=>rw[hb] at ht;exact ih t v ht
theorem tP {k:Nat} {u:Value} {r:List (Nat × Value)} {t:Nat}:lk ((k,u)::r) t=bif Nat.beq k t then some u else lk r t:=rfl
theorem lQ {K' : List (Nat × Value)} {t:Nat}:∀ {K:List (Nat × Value)},lk (K++K') t=(lk K t).or (lk K' t)
 | []=>rfl
 | (k,u)::r=>by
  rw[List.cons_append,tP,tP];cases Nat.beq k t with
  | true=>rfl
  | false=>exact lQ
theorem lY {K K' : List (Nat × Value)} {a:Act} (h1:Kn K a) (h2:Kn K' a):Kn (K++K') a:=by
 intro t v ht;rw[lQ] at ht;cases h:lk K t with
 | some u=>rw[h] at ht;cases ht;exact h1 t v h
 | none=>rw[h] at ht;exact h2 t v ht
def mS (ops:List Oper) (main ts:List Nat) (n:Nat):Bool :=
 ((List.range ops.length).all fun i=>(main.contains i != ts.contains i) && (dps ops i).all fun j=>decide (j<i)) &&
 (ts.all fun i=>lp ops i && decide (r8 ops i<n) && (dps ops i).all (fun j=>ts.contains j) && (List.range ops.length).all fun j=>decide (j=i) || ((nth ops j).map (fun o=>decide (o.dst≠some (r8 ops i)))).getD true) &&
 (List.range (main.length - 1)).all (fun k=>(dps ops (main.getD (k+1) 0)).contains (main.getD k 0)) && main.all fun i=>decide (i<ops.length)
section
variable (P:Program) (w0:World) (gs:List Nat) (n:Nat) (ops:List Oper) (Q:Exit→Act→World→Prop)
inductive Tls (K0:List (Nat × Value)) (Lc:List Ent) (T:List (Nat × Value)):List (Nat × Value)→Prop
 | nil:Tls K0 Lc T []
 | cons {i:Nat} {v:Value} {r:List (Nat × Value)} {o:Oper}:nth ops i=some o→Does P w0 gs (tvs ops T (dps ops i)++K0) Lc o.op o.type v→Tls K0 Lc T r→Tls K0 Lc T ((i,v)::r)
variable (main:List Nat) (T:List (Nat × Value))
def WM (done:Nat) (K:List (Nat × Value)) (L:List Ent):Prop :=
 ∀ (f:Nat) (S:List Bool) (a:Act) (w:World),S.length=ops.length→S.count false≤f→(∀ k m,main[k]?=some m→(S[m]?=some true↔k<done))→(∀ i,S[i]?=some true→∀ j∈dps ops i,S[j]?=some true)→a.defers=[]→a.tmps.size=n→Kn K a →
  (∀ i v,lk T i=some v→S[i]?=some true→a.tmps[r8 ops i]?=some v)→Me w0 gs L w→wpAny P .any ops.toArray Q f S.toArray a w
def MR (o:Oper) (K:List (Nat × Value)) (done:Nat):Act→World→Prop:=fun a w=>a.defers=[]∧a.tmps.size=n∧∃ K' L,WM P w0 gs n ops Q main T done (K'++K) L∧Kn K' a∧Me w0 gs L w∧(∀ d,o.dst=some d→(∃ v,lk K' d=some v)∨lk K d=none)
end
theorem yX {ops:List Oper} {S:List Bool} (hl:S.length=ops.length) {i:Nat} (h:i∈Region.ready .any ops.toArray S.toArray):i<ops.length∧S[i]?=some false∧∀ j∈dps ops i,S[j]?=some true:=by
 unfold Region.ready at h;rw[List.mem_filter] at h;obtain⟨h1,h2⟩:=h;have hi:i<ops.length:=by simpa using List.mem_range.1 h1
 rw[Bool.and_eq_true] at h2;obtain⟨h2,h3⟩:=h2;have hiS:i<S.length:=by omega
 refine⟨hi,?_,fun j hj=>?_⟩
 ·rw[List.getElem?_eq_getElem hiS];simp only[Array.getD_eq_getD_getElem?,List.getElem?_toArray,List.getElem?_eq_getElem hiS] at h2;simpa using h2
 ·unfold dps at hj;have ho:nth ops i=some ops[i]:=by rw[vp,List.getElem?_eq_getElem hi]
  rw[ho] at hj;have ho2:ops.toArray[i]?=some ops[i]:=by simp[hi]
  rw[ho2] at h3;simp only[Option.map_some,Option.getD_some,Array.all_eq_true'] at h3;obtain⟨e,he,rfl⟩:=List.mem_map.1 hj;obtain⟨he1,he2⟩:=List.mem_filter.1 he;have:=h3 e (by simpa using he1);rw[he2] at this;simp only[Bool.not_true,Bool.false_or] at this;simp only[Array.getD_eq_getD_getElem?,List.getElem?_toArray] at this;cases hS:S[e.on]? with
  | none=>rw[hS] at this;simp at this
  | some b=>rw[hS] at this;simp at this;rw[this]
theorem uH {ops:List Oper} {S:List Bool} (hl:S.length=ops.length) (hac:∀ i,i<ops.length→∀ j∈dps ops i,j<i) (h:Region.ready .any ops.toArray S.toArray=[]):∀ i,i<ops.length→S[i]?=some true:=by
 intro i
 induction i using Nat.strongRecOn with
 | ind i ih =>
  intro hi;have hiS:i<S.length:=by omega
  cases hb:S[i] with
  | true=>rw[List.getElem?_eq_getElem hiS,hb]
  | false =>
   exfalso;have hm:i∈Region.ready .any ops.toArray S.toArray:=by
    unfold Region.ready;rw[List.mem_filter];refine⟨by simpa using hi,?_⟩;rw[Bool.and_eq_true];refine⟨by simp only[Array.getD_eq_getD_getElem?,List.getElem?_toArray,List.getElem?_eq_getElem hiS,hb];rfl,?_⟩;have ho2:ops.toArray[i]?=some ops[i]:=by simp[hi]
    rw[ho2];simp only[Option.map_some,Option.getD_some,Array.all_eq_true'];intro e he;cases hbd:Region.binds .any e with
    | false=>rfl
    | true =>
     have hj:e.on∈dps ops i:=by
      unfold dps;have ho:nth ops i=some ops[i]:=by rw[vp,List.getElem?_eq_getElem hi]
      rw[ho];exact List.mem_map.2 ⟨e,List.mem_filter.2 ⟨by simpa using he,hbd⟩,rfl⟩
     have hlt:=hac i hi _ hj;have:=ih e.on hlt (by omega);simp only[Bool.not_true,Bool.false_or,Array.getD_eq_getD_getElem?,List.getElem?_toArray,this];rfl
   rw[h] at hm;cases hm
theorem qM {T:List (Nat × Value)} {i:Nat}:(∃ v,lk T i=some v)↔i∈T.map Prod.fst:=by
 induction T with
 | nil=>simp[lk]
 | cons p r ih =>
  obtain⟨k,u⟩:=p;rw[tP];cases hb:Nat.beq k i with
  | true =>
   have e:k=i:=Nat.eq_of_beq_eq_true hb;simp[e]
  | false =>
   have e:¬ i=k:=fun e=>by subst e;rw[Nat.beq_refl] at hb;cases hb
   simp only[cond_false,ih,List.map_cons,List.mem_cons,e,false_or]
theorem Tls.at {P:Program} {w0:World} {gs:List Nat} {ops:List Oper} {K0:List (Nat × Value)} {Lc:List Ent} {T:List (Nat × Value)} {i:Nat} {v:Value}:∀ {R:List (Nat × Value)},Tls P w0 gs ops K0 Lc T R→lk R i=some v→∃ o,nth ops i=some o∧Does P w0 gs (tvs ops T (dps ops i)++K0) Lc o.op o.type v
 | _,.nil,h=>by cases h
 | (k,u)::r,.cons h1 h2 h3,h=>by
  rw[tP] at h;cases hb:Nat.beq k i with
  | true =>
   rw[hb] at h;have e:k=i:=Nat.eq_of_beq_eq_true hb;subst e;cases h;exact⟨_,h1,h2⟩
  | false=>rw[hb] at h;exact h3.at h
theorem te {S:List Bool} {i f:Nat} (h:S[i]?=some false) (hc:S.count false≤f+1):(S.set i true).count false≤f:=by
 induction S generalizing i f with
 | nil=>cases h
 | cons b r ih =>
  cases i with
  | zero =>
   have e:b=false:=by simpa using h
   subst e;simp only[List.set_cons_zero,List.count_cons] at hc ⊢;simp at hc ⊢;omega
  | succ i =>
   have h' : r[i]?=some false:=by simpa using h
   have h0:0<r.count false:=List.count_pos_iff.2 (List.mem_of_getElem? h');simp only[List.set_cons_succ,List.count_cons] at hc ⊢;cases b with
   | true=>simp at hc ⊢;exact ih h' hc
   | false =>
    simp at hc ⊢;have:=ih (f:=r.count false - 1) h' (by omega);omega
section
variable {P:Program} {w0:World} {gs:List Nat} {n:Nat} {ops:List Oper} {Q:Exit→Act→World→Prop} {main:List Nat} {T K0 K:List (Nat × Value)} {Lc L:List Ent} {done:Nat}
structure Stg (n:Nat) (w0:World) (gs:List Nat) (ops:List Oper) (main:List Nat) (T:List (Nat × Value)) (done:Nat) (K:List (Nat × Value)) (L:List Ent) (f:Nat) (S:List Bool) (a:Act) (w:World):Prop where
 len:S.length=ops.length
 cnt:S.count false≤f
 mn:∀ k m,main[k]?=some m→(S[m]?=some true↔k<done)
 cl:∀ i,S[i]?=some true→∀ j∈dps ops i,S[j]?=some true
 df:a.defers=[]
 sz:a.tmps.size=n
 kn:Kn K a
 tl:∀ i v,lk T i=some v→S[i]?=some true→a.tmps[r8 ops i]?=some v
 me:Me w0 gs L w
structure Chk (ops:List Oper) (main ts:List Nat) (n:Nat):Prop where
 one:∀ i,i<ops.length→(main.contains i≠ts.contains i)
 ac:∀ i,i<ops.length→∀ j∈dps ops i,j<i
 dst:∀ i∈ts,lp ops i=true∧r8 ops i<n
 tdep:∀ i∈ts,∀ j∈dps ops i,j∈ts
 apart:∀ i∈ts,∀ j o,nth ops j=some o→j≠i→o.dst≠some (r8 ops i)
 chain:∀ k m m',main[k]?=some m→main[k+1]?=some m'→m∈dps ops m'
theorem mS.spec {ts:List Nat} (h:mS ops main ts n=true):Chk ops main ts n:=by
 unfold mS at h;simp only[Bool.and_eq_true,List.all_eq_true,List.mem_range,bne_iff_ne,decide_eq_true_eq,Bool.or_eq_true,List.contains_iff_mem] at h;obtain⟨⟨⟨h1,h2⟩,h3⟩,h4⟩:=h;refine⟨fun i hi=>?_,fun i hi=>(h1 i hi).2,fun i hi=>(h2 i hi).1.1,fun i hi=>(h2 i hi).1.2,fun i hi j o ho hne=>?_,fun k m m' hm hm'=>?_⟩
 ·exact (h1 i hi).1
 ·have hj:j<ops.length:=by
   rcases Nat.lt_or_ge j ops.length with h|h
   ·exact h
   ·rw[vp,List.getElem?_eq_none h] at ho;cases ho
  rcases (h2 i hi).2 j hj with e|e
  ·exact absurd e hne
  ·rw[ho] at e;simpa using e
 ·have hk:k<main.length - 1:=by
   have:k+1<main.length:=by
    rcases Nat.lt_or_ge (k+1) main.length with h|h
    ·exact h
    ·rw[List.getElem?_eq_none h] at hm';cases hm'
   omega
  have:=h3 k hk;simpa [List.getD,hm,hm'] using this
theorem lq {ops:List Oper} {S:List Bool} {i:Nat} (hi:i<S.length) (hcl:∀ i,S[i]?=some true→∀ j∈dps ops i,S[j]?=some true) (hid:∀ j∈dps ops i,S[j]?=some true):∀ k,(S.set i true)[k]?=some true→∀ j∈dps ops k,(S.set i true)[j]?=some true:=by
 have up:∀ j,S[j]?=some true→(S.set i true)[j]?=some true:=fun j hj=>by
  by_cases e:i=j
  ·subst e;rw[List.getElem?_set_self hi]
  ·rw[List.getElem?_set_ne e];exact hj
 intro k hk j hj
 by_cases e:i=k
 ·subst e;exact up j (hid j hj)
 ·rw[List.getElem?_set_ne e] at hk;exact up j (hcl k hk j hj)
theorem WM.loop (hc:mS ops main (T.map Prod.fst) n=true) (hT:Tls P w0 gs ops K0 Lc T T) (hk0:Kle K0 K) (hl0:Lle Lc L) (hfree:((T.map Prod.fst).all fun i=>(lk K (r8 ops i)).isNone)=true)
  (hmain:∀ f S a w,Stg n w0 gs ops main T done K L (f+1) S a w→∀ i,main.contains i=true→i∈Region.ready .any ops.toArray S.toArray→wpOp P ops.toArray Q i (wpAny P .any ops.toArray Q f (S.set i true).toArray) a w)
  (hfin:∀ f S a w,Stg n w0 gs ops main T done K L f S a w→(∀ i,i<ops.length→S[i]?=some true)→Q .normal a w):WM P w0 gs n ops Q main T done K L:=by
 have C:=mS.spec hc;have hfree:∀ i∈T.map Prod.fst,lk K (r8 ops i)=none:=fun i hi=>by simpa using List.all_eq_true.1 hfree i hi
 intro f
 induction f with
 | zero =>
  intro S a w h1 h2 h3 hcl h4 h5 h6 h7 h8;have hs:Stg n w0 gs ops main T done K L 0 S a w:=⟨h1,h2,h3,hcl,h4,h5,h6,h7,h8⟩;have hr:Region.ready .any ops.toArray S.toArray=[]:=by
   rw[List.eq_nil_iff_forall_not_mem];intro i hi;have:=(yX h1 hi).2.1;have:0<S.count false:=List.count_pos_iff.2 (List.mem_of_getElem? this);omega
  exact⟨hr,hfin _ _ _ _ hs (uH h1 C.ac hr)⟩
 | succ f ih =>
  intro S a w h1 h2 h3 hcl h4 h5 h6 h7 h8;have hs:Stg n w0 gs ops main T done K L (f+1) S a w:=⟨h1,h2,h3,hcl,h4,h5,h6,h7,h8⟩;refine⟨fun hr=>hfin _ _ _ _ hs (uH h1 C.ac hr),fun i hi=>?_⟩;rw[List.setIfInBounds_toArray];cases hm:main.contains i with
  | true=>exact hmain f S a w hs i hm hi
  | false =>
   obtain⟨hil,hiS,hid⟩:=yX h1 hi;have hits:i∈T.map Prod.fst:=by
    have:=C.one i hil;rw[hm] at this;cases h:(T.map Prod.fst).contains i with
    | true=>simpa using h
    | false=>exact absurd h.symm this
   obtain⟨v,hv⟩:=qM.2 hits;obtain⟨o,ho,hdo⟩:=hT.at hv;obtain⟨hd1,hd2⟩:=C.dst i hits;have hod:o.dst=some (r8 ops i)∧o.guard=none:=by
    unfold lp at hd1;unfold r8;rw[ho] at hd1 ⊢;obtain⟨od,_,_,_,_,og⟩:=o;cases od with
    | none=>simp at hd1
    | some d=>cases og with
     | none=>exact⟨rfl,rfl⟩
     | some g=>simp at hd1
   have hkn:Kn (tvs ops T (dps ops i)++K0) a:=lY (oQ fun j hj u hu=>h7 j u hu (hid j hj)) (hk0.kn h6);have hrun:=hdo a w hkn (hl0.me h8).mr o rfl rfl;have ho2:ops.toArray[i]?=some o:=by simpa [vp] using ho
   unfold wpOp;simp only[ho2];have hw:Region.wanted o (yielded ops.toArray a.tmps)=true:=by unfold Region.wanted;rw[hod.2]
   rw[if_pos hw];left;unfold Oper.wp;rw[hrun];show wpAny P .any ops.toArray Q f (S.set i true).toArray (a.put o.dst v) w;refine ih _ _ _ (by rw[List.length_set];exact h1) (te hiS h2) (fun k m hkm=>?_) (lq (by omega) hcl hid) (by rw[put_defers];exact h4) (by rw[yj];exact h5) (fun t u ht=>?_) (fun j u hu hj=>?_) h8
   ·have hne:¬ i=m:=fun e=>by
     subst e;have:main.contains i=true:=by simpa using List.mem_of_getElem? hkm
     rw[hm] at this;cases this
    rw[List.getElem?_set_ne hne];exact h3 k m hkm
   ·have hne:o.dst≠some t:=fun e=>by
     rw[hod.1] at e;cases e;rw[hfree i hits] at ht;cases ht
    rw[yE _ _ _ hne];exact h6 t u ht
   ·by_cases e:j=i
    ·subst e;rw[hv] at hu;cases hu;rw[hod.1];simp only[Act.put];rw[Array.getElem?_setIfInBounds,if_pos rfl,if_pos (by omega)]
    ·rw[List.getElem?_set_ne (fun h=>e h.symm)] at hj;have hjt:j∈T.map Prod.fst:=qM.1 ⟨u,hu⟩;have hne:o.dst≠some (r8 ops j):=C.apart j hjt i o ho (fun h=>e h.symm);rw[yE _ _ _ hne];exact h7 j u hu hj
theorem WM.step {m:Nat} {o:Oper} (hm:main[done]?=some m) (ho:nth ops m=some o) (hc:mS ops main (T.map Prod.fst) n=true) (hT:Tls P w0 gs ops K0 Lc T T)
  (k:WO P w0 gs n ops (Qk (MR P w0 gs n ops Q main T o K (done+1)) Q) (tvs ops T (dps ops m)++K) L [o]) (hk0:Kle K0 K:=by (repeat (first|exact Kle.nil|refine Kle.cons rfl rfl ?_))) (hl0:Lle Lc L:=by (repeat (first|exact Lle.nil|refine Lle.c ?_))) (hfree:((T.map Prod.fst).all fun i=>(lk K (r8 ops i)).isNone)=true:=by rfl):WM P w0 gs n ops Q main T done K L:=by
 have C:=mS.spec hc;have hml:m<ops.length:=by
  rcases Nat.lt_or_ge m ops.length with h|h
  ·exact h
  ·rw[vp,List.getElem?_eq_none h] at ho;cases ho
 have hmm:main.contains m=true:=by simpa using List.mem_of_getElem? hm
 have ho2:ops.toArray[m]?=some o:=by simpa [vp] using ho
 have hdl:done<main.length:=by
  rcases Nat.lt_or_ge done main.length with h|h
  ·exact h
  ·rw[List.getElem?_eq_none h] at hm;cases hm
 have only:∀ {S:List Bool},(∀ k m,main[k]?=some m→(S[m]?=some true↔k<done))→∀ {k' i:Nat},main[k']?=some i→S[i]?=some false→(∀ j∈dps ops i,S[j]?=some true)→k'=done:=by
  intro S hmn k' i hki hiS hid;have h1:¬ k' < done:=fun h=>by have:=(hmn k' i hki).2 h;rw[hiS] at this;cases this
  rcases Nat.lt_or_ge done k' with h|h
  ·exfalso;obtain⟨q,rfl⟩ : ∃ q,k'=q+1:=⟨k' - 1,by omega⟩
   obtain⟨mq,hmq⟩ : ∃ x,main[q]?=some x:=by
    have:q<main.length:=by
     rcases Nat.lt_or_ge (q+1) main.length with h|h
     ·omega
     ·rw[List.getElem?_eq_none h] at hki;cases hki
    exact⟨_,List.getElem?_eq_getElem this⟩
   have:=hid mq (C.chain q mq i hmq hki);have:=(hmn q mq hmq).1 this;omega
  ·omega
 refine WM.loop hc hT hk0 hl0 hfree (fun f S a w hs i hi hr=>?_) (fun f S a w hs hall=>?_)
 ·obtain⟨hil,hiS,hid⟩:=yX hs.len hr;obtain⟨k',hk'⟩:=List.getElem?_of_mem (by simpa using hi:i∈main);have e:=only hs.mn hk' hiS hid;subst e;have e2:i=m:=by rw[hm] at hk';cases hk';rfl
  subst e2;have hkn:Kn (tvs ops T (dps ops i)++K) a:=lY (oQ fun j hj u hu=>hs.tl j u hu (hid j hj)) hs.kn;have h1:=oR ho2 (mG ho2 (k a w hs.df hs.sz hkn hs.me));refine wpOp_mono (fun a' w' hh=>?_) h1;obtain⟨⟨g1,g2,K',L',g3,g4',g5,g7⟩,g6⟩:=hh;have g4:Kn (K'++K) a':=by
   intro t v ht;rw[lQ] at ht;cases h:lk K' t with
   | some u=>rw[h] at ht;cases ht;exact g4' t v h
   | none =>
    rw[h] at ht;have ht:lk K t=some v:=ht;have hne:o.dst≠some t:=fun e=>by
     rcases g7 t e with ⟨v',hv'⟩|h2
     ·rw[h] at hv';cases hv'
     ·rw[h2] at ht;cases ht
    rw[g6 t hne];exact hs.kn t v ht
  refine g3 f (S.set i true) a' w' (by rw[List.length_set];exact hs.len) (te hiS hs.cnt) (fun q mq hq=>?_) (lq (by rw[hs.len];exact hil) hs.cl hid) g1 g2 g4 (fun j u hu hj=>?_) g5
  ·by_cases e:i=mq
   ·subst e;have:=only hs.mn hq hiS hid;subst this;rw[List.getElem?_set_self (by rw[hs.len];exact hil)];simp
   ·rw[List.getElem?_set_ne e,hs.mn q mq hq];constructor
    ·intro h;omega
    ·intro h
     rcases Nat.lt_or_ge q k' with h2|h2
     ·exact h2
     ·exfalso;have:q=k':=by omega
      subst this;rw[hk'] at hq;cases hq;exact e rfl
  ·have hjt:j∈T.map Prod.fst:=qM.1 ⟨u,hu⟩;have hne:j≠i:=fun e=>by
    subst e;have:=C.one j hil;rw[hi] at this;exact this (by simpa using hjt)
   rw[List.getElem?_set_ne (fun h=>hne h.symm)] at hj;rw[g6 _ (C.apart j hjt i o ho (fun h=>hne h.symm))];exact hs.tl j u hu hj
 ·exfalso;have:=(hs.mn done m hm).1 (hall m hml);omega
theorem WM.fin {m:Nat} (hc:mS ops main (T.map Prod.fst) n=true) (hm:main[done - 1]?=some m) (hd:done=main.length) (hall:(T.map Prod.fst).all (fun i=>(dps ops m).contains i)=true)
  (k:WX w0 gs n .normal Q K L) (h0:0<done:=by decide):WM P w0 gs n ops Q main T done K L:=by
 have C:=mS.spec hc;have key:∀ (f:Nat) (S:List Bool) (a:Act) (w:World),S.length=ops.length→(∀ k m,main[k]?=some m→(S[m]?=some true↔k<done))→(∀ i,S[i]?=some true→∀ j∈dps ops i,S[j]?=some true)→a.defers=[]→a.tmps.size=n→Kn K a→Me w0 gs L w→wpAny P .any ops.toArray Q f S.toArray a w:=by
  intro f S a w h1 h3 hcl h4 h5 h6 h8;have hr:Region.ready .any ops.toArray S.toArray=[]:=by
   rw[List.eq_nil_iff_forall_not_mem];intro i hi;obtain⟨hil,hiS,hid⟩:=yX h1 hi;cases hmi:main.contains i with
   | true =>
    obtain⟨k',hk'⟩:=List.getElem?_of_mem (by simpa using hmi:i∈main);have hkl:k' < main.length:=by
     rcases Nat.lt_or_ge k' main.length with h|h
     ·exact h
     ·rw[List.getElem?_eq_none h] at hk';cases hk'
    have:=(h3 k' i hk').2 (by omega);rw[hiS] at this;cases this
   | false =>
    have hits:i∈T.map Prod.fst:=by
     have:=C.one i hil;rw[hmi] at this;cases h:(T.map Prod.fst).contains i with
     | true=>simpa using h
     | false=>exact absurd h.symm this
    have hmS:=(h3 (done - 1) m hm).2 (by omega);have hin:i∈dps ops m:=by simpa using List.all_eq_true.1 hall i hits
    have:=hcl m hmS i hin;rw[hiS] at this;cases this
  cases f with
  | zero=>exact⟨hr,k a w h4 h5 h6 h8⟩
  | succ f=>exact⟨fun _=>k a w h4 h5 h6 h8,fun i hi=>by rw[hr] at hi;cases hi⟩
 exact fun f S a w h1 _ h3 hcl h4 h5 h6 _ h8=>key f S a w h1 h3 hcl h4 h5 h6 h8
theorem WX.wm {o:Oper} {d:Nat} {Q' : Exit→Act→World→Prop} {K1:List (Nat × Value)} (K' : List (Nat × Value)) (k:WM P w0 gs n ops Q main T d (K'++K) L) (hk:Kle K' K1:=by (repeat (first|exact Kle.nil|refine Kle.cons rfl rfl ?_))) (hd:∀ t,o.dst=some t→(∃ v,lk K' t=some v)∨lk K t=none:=by (intro t ht;first|(cases ht;done)|(cases ht;first|exact .inl ⟨_,rfl⟩|exact .inr rfl))):WX w0 gs n .normal (Qk (MR P w0 gs n ops Q main T o K d) Q') K1 L:=fun _ _ h1 h2 h3 h4 =>
 ⟨h1,h2,K',L,k,hk.kn h3,h4,hd⟩
theorem WM.with (Lc:List Ent) (hc:mS ops main (T.map Prod.fst) n=true) (hT:Tls P w0 gs ops K Lc T T) (k:mS ops main (T.map Prod.fst) n=true→Tls P w0 gs ops K Lc T T→WM P w0 gs n ops Q main T 0 K L):WM P w0 gs n ops Q main T 0 K L:=k hc hT
theorem WC.mains {id:Nat} {l:List Oper} [Mix P] (main:List Nat) (T:List (Nat × Value)) (hml:main.all (fun i=>decide (i<l.length))=true) (k:WM P w0 gs n l Q main T 0 K L):WC P w0 gs n (.region id l.toArray true) Q K L:=by
 refine WC.all (fun a w h1 h2 h3 h4=>k _ _ a w (by simp) (by rw[List.count_replicate];split<;>omega) (fun q m hq=>?_) (fun i hi=>?_) h1 h2 h3 (fun i v _ hi=>?_) h4)
 ·have hm:m<l.length:=by
   have:=List.all_eq_true.1 hml m (List.mem_of_getElem? hq);simpa using this
  rw[List.getElem?_replicate,if_pos hm];simp
 ·rw[List.getElem?_replicate] at hi
  split at hi<;>simp at hi
 ·rw[List.getElem?_replicate] at hi
  split at hi<;>simp at hi
end
end Sx
end
end Go.Proofs.YtbhblpnjhkddbaaGreat
