/- Part 31 of the proof. -/
import Derived.Test.YtbhblpnjhkddbaaGreatE30
set_option linter.unusedSimpArgs false
set_option linter.unusedVariables false
namespace Go.Proofs.YtbhblpnjhkddbaaGreat
section
open Go Go.RowKit Go.BigFrame
namespace Sx
attribute [local irreducible] DQ DQS WC WO WX wd
def vI (n:Nat) (N:List (Nat × Nat)):Bool:=decide (1≤n) && decide (n≤N.length)
theorem yp {n:Nat} {N:List (Nat × Nat)} (h:vI n N=true):1≤n∧n≤N.length:=by
 unfold vI at h;simp at h;exact h
section
variable (p q g h:Nat) (f sec:Int) (pt:Option Addr) (c:Nat) (N:List (Nat × Nat))
theorem bR (n:Nat) (hn:n<256) (hNl:N.length≤1099511627776):Fn Tryz.prog 43 [stV p q g h f sec (.slice pt N.length c),.int .u8 (n:Int)] Tr (Is (.bool (vI n N))):=by
 have hcv:IntKind.i64.wrap (n:Int)=(n:Int):=i64_in (by omega) (by omega);unfold vI
 by_cases h1:1≤n
 ·rw[decide_eq_true h1,Bool.true_and];have d1:decide ((1:Int)≤(n:Int))=true:=decide_eq_true (by omega);have d2:decide ((n:Int)≤(N.length:Int))=decide (n≤N.length):=by simp
  refine Fn.enter Tryz.func43 rfl rfl rfl ?_;intro w hw
  repeat (first|refine Tw ?_|(refine Tm ?_;intro _)|exact Tz)
  rw[d1]
  repeat (first|refine Ta ?_|(refine Tm ?_;intro _)|refine WO.does (zD rfl hcv) ?_|refine Tc ?_|exact Tz)
  rw[d2]
  repeat (first|refine Tw ?_|(refine Tm ?_;intro _)|exact Tz)
 ·rw[decide_eq_false h1,Bool.false_and];have d1:decide ((1:Int)≤(n:Int))=false:=decide_eq_false (by omega);refine Fn.enter Tryz.func43 rfl rfl rfl ?_;intro w hw
  repeat (first|refine Tw ?_|(refine Tm ?_;intro _)|exact Tz)
  rw[d1]
  repeat (first|refine Tw ?_|(refine Tm ?_;intro _)|exact Tz)
end
def abL (ep d n:Nat):List Nat:=be 8 ep++be 1 d++be 1 n
theorem vy (ep d n:Nat):(abL ep d n).length=10:=by unfold abL;simp only[List.length_append,zh]
def jD (p q h x key:Nat):Bool:=zK x x q && yD p h && decide (h ^ x%p=key)
theorem uQ (r:Nat):okV true r=r:=rfl
theorem gI {p h x:Nat} (hm:yD p h=true):h ^ x%p<p:=Nat.mod_lt _ (by have:=(yF hm).1;omega)
def nk:ByteArray:=⟨#[100,114,97,119]⟩
def yV (q x:Nat) (H:List Nat):Nat:=if om q (zW nk) [be 32 x,H]=0 then 1 else om q (zW nk) [be 32 x,H]
theorem dZ {p q g h:Nat} {f sec:Int} {N:List (Nat × Nat)} (hs:vl p q g h f sec N=true):yD p h=true:=by
 unfold vl at hs;simp only[Bool.and_eq_true] at hs;have hk:=hs.1.2;unfold kB at hk;rw[Bool.and_eq_true] at hk;exact y8 hk.1
theorem lf {p q h x key:Nat} (hs:jD p q h x key=true):zK x x q=true:=by
 unfold jD at hs;simp only[Bool.and_eq_true] at hs;exact hs.1.1
theorem pH {q x:Nat} {H:List Nat} (h0:0<q) (hq:q<zc):yV q x H<zc:=by
 unfold yV;split
 ·exact vi
 ·exact Nat.lt_trans (ta h0 _ _) hq
theorem iD {n:Nat} (h:n<256):be 1 n=[n]:=by
 simp[be,List.range,List.range.loop];omega
theorem oT {ep d n:Nat} (hd:d<256) (hn:n<256):byC (be 8 ep)++[.int .u8 (d:Int),.int .u8 (n:Int)]=byC (abL ep d n):=by
 unfold abL;rw[iD hd,iD hn,yd,yd];simp[byC]
theorem bs {ep d n:Nat}:∀ b∈abL ep d n,b<256:=by
 intro b hb;unfold abL at hb
 rcases List.mem_append.1 hb with hb|hb
 ·rcases List.mem_append.1 hb with hb|hb<;>exact ul b hb
 ·exact ul b hb
abbrev dlV (ep d:Nat) (v y pr:Value) (c s:Nat):Value:=.agg #[.int .u64 (ep:Int),.int .u8 (d:Int),v,y,pr,.int .u64 ((wd 0 c:Nat):Int),.int .u64 ((wd 1 c:Nat):Int),.int .u64 ((wd 2 c:Nat):Int),.int .u64 ((wd 3 c:Nat):Int),.int .u64 ((wd 0 s:Nat):Int),.int .u64 ((wd 1 s:Nat):Int),.int .u64 ((wd 2 s:Nat):Int),.int .u64 ((wd 3 s:Nat):Int)]
abbrev dlC (ep d:Nat) (v y pr:Value) (c s:Nat):List Value:=[.int .u64 (ep:Int),.int .u8 (d:Int),v,y,pr,.int .u64 ((wd 0 c:Nat):Int),.int .u64 ((wd 1 c:Nat):Int),.int .u64 ((wd 2 c:Nat):Int),.int .u64 ((wd 3 c:Nat):Int),.int .u64 ((wd 0 s:Nat):Int),.int .u64 ((wd 1 s:Nat):Int),.int .u64 ((wd 2 s:Nat):Int),.int .u64 ((wd 3 s:Nat):Int)]
end Sx
end
section
open Go Go.RowKit Go.BigFrame
namespace Sx
attribute [local irreducible] wd
def si:ByteArray:=⟨#[115,104,97,114,101]⟩
def tg:ByteArray:=⟨#[100,101,97,108,105,110,103]⟩
def eG:ByteArray:=⟨#[115,105,103,110]⟩
def exN (p a n:Nat):Nat:=okV (yD p a) (a ^ n%p)
def shN (q:Nat) (l:List Nat) (i:Nat):Nat:=zO l (i+1)%q
def shL (q:Nat) (l:List Nat) (n:Nat):List Nat:=(List.range n).map (shN q l)
def ky (N:List (Nat × Nat)) (i:Nat):Nat:=(N.getD i (0,0)).2
def dV (p q g:Nat) (l:List Nat) (i:Nat):Nat:=exN p g (shN q l i)
def dY (p q:Nat) (l:List Nat) (N:List (Nat × Nat)) (i:Nat):Nat:=exN p (ky N i) (shN q l i)
def dH (ep d v y i:Nat):List Nat:=hOf (zW si) [abL ep d (i+1),be 32 v,be 32 y]
def pfN (p q g x k draw:Nat):Nat × Nat:=(okV (prB p q x g k draw) (prC p q (zW si) x g k draw),okV (prB p q x g k draw) ((draw+x*prC p q (zW si) x g k draw%q)%q))
def dP (p q g:Nat) (l:List Nat) (N:List (Nat × Nat)) (ep d x i:Nat):Nat × Nat :=
 pfN p q g (shN q l i) (ky N i) (yV q x (dH ep d (dV p q g l i) (dY p q l N i) i))
def kO (ep d:Nat) (V Y:List Nat) (Pr:List (Nat × Nat)):List Nat:=hOf (zW tg) [be 8 ep++be 1 d,V.flatMap (be 32),Y.flatMap (be 32),Pr.flatMap fun k=>be 32 k.1++be 32 k.2]
def sgB (p q g x draw:Nat):Bool:=yD p g && zK x x q && zK draw draw q && decide (x≠0) && decide (draw≠0)
def sgC (p q g x draw:Nat) (H:List Nat):Nat:=om q (zW eG) [be 32 (g ^ x%p),be 32 (g ^ draw%p),H]
def sgN (p q g x draw:Nat) (H:List Nat):Nat × Nat:=(okV (sgB p q g x draw) (sgC p q g x draw H),okV (sgB p q g x draw) ((draw+x*sgC p q g x draw H%q)%q))
def dVs (p q g:Nat) (l:List Nat) (n:Nat):List Nat:=(List.range n).map (dV p q g l)
def dYs (p q:Nat) (l:List Nat) (N:List (Nat × Nat)) (n:Nat):List Nat:=(List.range n).map (dY p q l N)
def dPs (p q g:Nat) (l:List Nat) (N:List (Nat × Nat)) (ep d x n:Nat):List (Nat × Nat):=(List.range n).map (dP p q g l N ep d x)
def dHs (p q g:Nat) (l:List Nat) (N:List (Nat × Nat)) (ep d x n:Nat):List Nat:=kO ep d (dVs p q g l n) (dYs p q l N n) (dPs p q g l N ep d x n)
def dSg (p q g:Nat) (l:List Nat) (N:List (Nat × Nat)) (ep d x n:Nat):Nat × Nat:=sgN p q g x (yV q x (dHs p q g l N ep d x n)) (dHs p q g l N ep d x n)
def sgK (N:List (Nat × Nat)) (d:Nat):Nat:=(N.getD (d - 1) (0,0)).1
def qZ (p q g h:Nat) (f sec:Int) (N:List (Nat × Nat)) (d:Nat) (l:List Nat) (x:Nat):Bool :=
 vl p q g h f sec N && vI d N && (decide ((l.length:Int)=f+sec) && uk q l) && jD p q g x (sgK N d)
theorem uF {α:Type} (f:Nat→α) {i:Nat}:(List.range (i+1)).map f=(List.range i).map f++[f i]:=by
 rw[List.range_succ,List.map_append];rfl
theorem fp {p a n:Nat} (hp:p<zc):exN p a n<zc:=by
 unfold exN;cases h:yD p a with
 | false=>exact zz
 | true=>exact Nat.lt_trans (gI h) hp
theorem abh {q i:Nat} {l:List Nat} (h:0<q):shN q l i<q:=Nat.mod_lt _ h
theorem bU {b:Bool} {x:Nat} (h:x<zc):okV b x<zc:=by
 cases b with
 | false=>exact zz
 | true=>exact h
theorem yo {p q g h:Nat} {f sec:Int} {N:List (Nat × Nat)} (hs:vl p q g h f sec N=true):1≤N.length∧N.length≤7∧N.length<q∧0≤f∧1≤sec∧f+sec≤5∧yD p g=true∧yD p h=true:=by
 have hm:=dZ hs;unfold vl at hs;simp only[Bool.and_eq_true,decide_eq_true_eq] at hs;obtain⟨⟨⟨⟨⟨⟨⟨⟨⟨⟨h1,h2⟩,h3⟩,h4⟩,h5⟩,h6⟩,h7⟩,h8⟩,h9⟩,_⟩,_⟩:=hs;unfold kB at h9;rw[Bool.and_eq_true] at h9;exact⟨by omega,by omega,by omega,h1,h3,by omega,y8 h9.1,hm⟩
theorem bu {N:List (Nat × Nat)} {i:Nat} {k:Nat × Nat} (h:N[i]?=some k):ky N i=k.2:=by
 simp[ky,List.getD,h]
theorem gy {d:Nat} {N:List (Nat × Nat)} {k:Nat × Nat} (h:N[d - 1]?=some k):sgK N d=k.1:=by
 simp[sgK,List.getD,h]
theorem aaU {q n i:Nat} {l:List Nat} (h:i<n):(shL q l n)[i]?=some (shN q l i):=by
 simp[shL,h]
theorem nL {ep d:Nat} {V Y:List Nat} {Pr:List (Nat × Nat)}:∀ X∈[be 8 ep++be 1 d,V.flatMap (be 32),Y.flatMap (be 32),Pr.flatMap fun k=>be 32 k.1++be 32 k.2],∀ x∈X,x<256:=by
 intro X hX x hx;simp only[List.mem_cons,List.not_mem_nil,or_false] at hX
 rcases hX with rfl|rfl|rfl|rfl
 ·rcases List.mem_append.1 hx with h|h<;>exact ul _ h
 ·obtain⟨_,_,h⟩:=List.mem_flatMap.1 hx;exact ul _ h
 ·obtain⟨_,_,h⟩:=List.mem_flatMap.1 hx;exact ul _ h
 ·obtain⟨_,_,h⟩:=List.mem_flatMap.1 hx
  rcases List.mem_append.1 h with h|h<;>exact ul _ h
theorem pW (l:List Nat):(l.flatMap (be 32)).length=l.length*32:=by
 induction l with
 | nil=>rfl
 | cons a r ih=>rw[List.flatMap_cons,List.length_append,zh,ih,List.length_cons];omega
theorem oa (l:List (Nat × Nat)):(l.flatMap fun k=>be 32 k.1++be 32 k.2).length=l.length*64:=by
 induction l with
 | nil=>rfl
 | cons a r ih=>rw[List.flatMap_cons,List.length_append,List.length_append,zh,zh,ih,List.length_cons];omega
theorem aad {p q g x key:Nat}:jD p q g x key=(zK x x q && yD p g && decide (exN p g x=key)):=by
 unfold jD exN;cases yD p g with
 | false=>simp
 | true=>rfl
end Sx
end
section
open Go Go.RowKit Go.BigFrame
namespace Sx
attribute [local irreducible] DQ DQS WC WO WX wd
abbrev opC (ep d n z c s:Nat):List Value:=[.int .u64 (ep:Int),.int .u8 (d:Int),.int .u8 (n:Int),.int .u64 ((wd 0 z:Nat):Int),.int .u64 ((wd 1 z:Nat):Int),.int .u64 ((wd 2 z:Nat):Int),.int .u64 ((wd 3 z:Nat):Int),.int .u64 ((wd 0 c:Nat):Int),.int .u64 ((wd 1 c:Nat):Int),.int .u64 ((wd 2 c:Nat):Int),.int .u64 ((wd 3 c:Nat):Int),.int .u64 ((wd 0 s:Nat):Int),.int .u64 ((wd 1 s:Nat):Int),.int .u64 ((wd 2 s:Nat):Int),.int .u64 ((wd 3 s:Nat):Int)]
structure Od where
 e:Nat
 d:Nat
 n:Nat
 z:Nat
 c:Nat
 s:Nat
structure qe (o:Od):Prop where
 e:o.e<18446744073709551616
 d:o.d<256
 n:o.n<256
 z:o.z<zc
 c:o.c<zc
 s:o.s<zc
abbrev odC (o:Od):List Value:=opC o.e o.d o.n o.z o.c o.s
theorem uE (o:Od):(odC o).length=15:=rfl
theorem abw (i a:Nat):(Lit.int .u64 ((wd i a:Nat):Int)).wf=true:=by
 have:=z7 i a;simp[Lit.wf,IntKind.min,IntKind.max,IntKind.signed,IntKind.bits];omega
theorem jb (o:Od) (ho:qe o):∃ l,Tryz.prog.keyLits 4 46 (odC o)=some l:=by
 have c1:Tryz.prog.cellsOf 46=15:=by kernel_rfl
 have c2:Tryz.prog.cellsOf 24=4:=by kernel_rfl
 have c3:Tryz.prog.cellsOf 44=8:=by kernel_rfl
 have c4:Tryz.prog.cellsOf 22=1:=by kernel_rfl
 have c5:Tryz.prog.cellsOf 5=1:=by kernel_rfl
 have w1:(Lit.int .u64 (o.e:Int)).wf=true:=by have:=ho.e;simp[Lit.wf,IntKind.min,IntKind.max,IntKind.signed,IntKind.bits];omega
 have w2:(Lit.int .u8 (o.d:Int)).wf=true:=by have:=ho.d;simp[Lit.wf,IntKind.min,IntKind.max,IntKind.signed,IntKind.bits];omega
 have w3:(Lit.int .u8 (o.n:Int)).wf=true:=by have:=ho.n;simp[Lit.wf,IntKind.min,IntKind.max,IntKind.signed,IntKind.bits];omega
 have k1:Tryz.prog.keyLits 3 22 [.int .u64 (o.e:Int)]=some [.int .u64 (o.e:Int)]:=by simp[Program.keyLits,Tryz.underlying22,w1]
 have k2:Tryz.prog.keyLits 3 5 [.int .u8 (o.d:Int)]=some [.int .u8 (o.d:Int)]:=by simp[Program.keyLits,Tryz.underlying5,w2]
 have k3:Tryz.prog.keyLits 3 5 [.int .u8 (o.n:Int)]=some [.int .u8 (o.n:Int)]:=by simp[Program.keyLits,Tryz.underlying5,w3]
 have k4:∃ l,Tryz.prog.keyLits 3 24 (zb o.z)=some l:=by
  have k:=fun i=>abw i o.z;have r:List.range 4=[0,1,2,3]:=rfl;unfold Program.keyLits;simp[Tryz.underlying24,c2,c4,r,Program.keyLits,Tryz.underlying22,k]
 obtain⟨l4,k4⟩:=k4;obtain⟨l5,k5⟩:=nE o.c o.s;unfold Program.keyLits;simp[Tryz.underlying46,c1,c2,c3,c4,c5,zb] at k1 k2 k3 k4 k5 ⊢;simp[k1,k2,k3,k4,k5]
theorem ms (o:Od) (ho:qe o) (w:World):(Op.equalIn 10000 46 (.agg (odC o).toArray) (.agg (odC o).toArray)).run Tryz.prog w=.ok true w:=lv (d:=9996) (m:=4) (D:=4) (by kernel_rfl) rfl (by kernel_rfl) (jb o ho) w
theorem ss (op:BinOp) (x y:Operand) (a b:Array Value) (w:World):(eqGuard op 46 x y (.agg a) (.agg b)).run Tryz.prog w=.ok () w:=by cases op<;>kernel_rfl
end Sx
end
section
open Go Go.RowKit Go.BigFrame
namespace Sx
def byN (n:Nat) (l:List Od):List Od:=(List.range n).flatMap fun k=>l.filter fun o=>o.n=k+1
theorem nO {n:Nat} {l:List Od} {o:Od} (h:∀ o∈l,1≤o.n∧o.n≤n):o∈byN n l↔o∈l:=by
 unfold byN;simp only[List.mem_flatMap,List.mem_range,List.mem_filter,decide_eq_true_eq];constructor
 ·rintro ⟨k,_,h1,_⟩;exact h1
 ·intro h1;have:=h o h1;exact⟨o.n - 1,by omega,h1,by omega⟩
theorem iG {α:Type} {R:α→α→Prop} {f:Nat→List α}:∀ (n:Nat),(∀ k,k<n→(f k).Pairwise R)→(∀ i j,i<j→j<n→∀ a∈f i,∀ b∈f j,R a b)→((List.range n).flatMap f).Pairwise R
 | 0,_,_=>by simp
 | n+1,h1,h2=>by
  rw[List.range_succ,List.flatMap_append,List.pairwise_append];refine⟨iG n (fun k hk=>h1 k (by omega)) (fun i j hi hj=>h2 i j hi (by omega)),by simpa using h1 n (by omega),fun a ha b hb=>?_⟩;obtain⟨i,hi,ha⟩:=List.mem_flatMap.1 ha;have hb:b∈f n:=by simpa using hb
  exact h2 i n (List.mem_range.1 hi) (by omega) a ha b hb
theorem qN {n:Nat} {l:List Od} (hn:(l.map Od.n).Nodup):(byN n l).Pairwise (fun a b=>a.n<b.n):=by
 refine iG n (fun k _=>?_) (fun i j hi hj a ha b hb=>?_)
 ·have h1:l.Pairwise (fun a b=>a.n≠b.n):=by
   rw[List.Nodup,List.pairwise_map] at hn;exact hn
  refine (h1.filter (fun o=>o.n=k+1)).imp_of_mem ?_;intro a b ha hb hne;have ea:=(List.mem_filter.1 ha).2;have eb:=(List.mem_filter.1 hb).2;simp only[decide_eq_true_eq] at ea eb;omega
 ·have ea:=(List.mem_filter.1 ha).2;have eb:=(List.mem_filter.1 hb).2;simp only[decide_eq_true_eq] at ea eb;omega
theorem oP:∀ (l r:List Od),l.Pairwise (fun a b=>a.n<b.n)→r.Pairwise (fun a b=>a.n<b.n)→(∀ o,o∈l↔o∈r)→l=r
 | [],[],_,_,_=>rfl
 | [],b::r,_,_,h=>by have:=(h b).2 (by simp);simp at this
 | a::l,[],_,_,h=>by have:=(h a).1 (by simp);simp at this
 | a::l,b::r,h1,h2,h=>by
  rw[List.pairwise_cons] at h1 h2;have e:a=b:=by
   rcases List.mem_cons.1 ((h a).1 (by simp)) with e|e
   ·exact e
   rcases List.mem_cons.1 ((h b).2 (by simp)) with e'|e'
   ·exact e'.symm
   have:=h2.1 a e;have:=h1.1 b e';omega
  subst e;rw[oP l r h1.2 h2.2 (fun o=>?_)];constructor
  ·intro ho
   rcases List.mem_cons.1 ((h o).1 (by simp[ho])) with e|e
   ·subst e;have:=h1.1 o ho;omega
   ·exact e
  ·intro ho
   rcases List.mem_cons.1 ((h o).2 (by simp[ho])) with e|e
   ·subst e;have:=h2.1 o ho;omega
   ·exact e
theorem lO {n:Nat} {l arr:List Od} (hp:arr.Perm l) (hs:arr.Pairwise (fun a b=>a.n≤b.n)) (hd:(l.map Od.n).Nodup) (hn:∀ o∈l,1≤o.n∧o.n≤n):arr=byN n l:=by
 have hd2:arr.Pairwise (fun a b=>a.n≠b.n):=by
  have:=(hp.map Od.n).nodup_iff.2 hd;rw[List.Nodup,List.pairwise_map] at this;exact this
 refine oP _ _ ?_ (qN hd) (fun o=>?_)
 ·refine (hs.and hd2).imp ?_;intro a b ⟨h1,h2⟩;omega
 ·rw[hp.mem_iff,nO hn]
theorem sn:∀ {arr:List Od},arr.Pairwise (fun a b=>a.n≤b.n)→(∀ i a b,arr[i]?=some a→arr[i+1]?=some b→a.n≠b.n)→(arr.map Od.n).Nodup
 | [],_,_=>by simp
 | [a],_,_=>by simp
 | a::b::r,h,hd=>by
  rw[List.pairwise_cons] at h;have ih:=sn h.2 (fun i x y h1 h2=>hd (i+1) x y h1 h2);rw[List.map_cons,List.nodup_cons];refine⟨fun hm=>?_,ih⟩;obtain⟨o,ho,e⟩:=List.mem_map.1 hm;have h0:=hd 0 a b rfl rfl;have h1:=h.1 b (by simp);have hb:=List.pairwise_cons.1 h.2
  rcases List.mem_cons.1 ho with e2|e2
  ·subst e2;omega
  ·have:=hb.1 o e2;omega
def ny (l:List Od) (i:Nat):Nat:=((l[i]?).map Od.n).getD 0
def Ins (l:List Od) (i j:Nat):Prop:=∀ a b,a<b→b≤i→b≠j→ny l a≤ny l b
def Srt (l:List Od) (k:Nat):Prop:=∀ a b,a<b→b<k→ny l a≤ny l b
theorem tW {l:List Od} {i:Nat} {o:Od} (h:l[i]?=some o):ny l i=o.n:=by unfold ny;rw[h];rfl
theorem Srt.ins {l:List Od} {i:Nat} (h:Srt l i):Ins l i i:=fun a b h1 h2 h3=>h a b h1 (by omega)
theorem Ins.done {l:List Od} {i j:Nat} (h:Ins l i j) (hj:j≤i) (h0:j=0∨∃ k,j=k+1∧ny l k≤ny l j):Srt l (i+1):=fun a b h1 h2=>by
 by_cases hb:b=j
 ·subst hb
  rcases h0 with h0|⟨k,rfl,hk⟩
  ·omega
  ·by_cases ha:a=k
   ·subst ha;exact hk
   ·exact Nat.le_trans (h a k (by omega) (by omega) (by omega)) hk
 ·exact h a b h1 (by omega) hb
theorem kc {l:List Od} {i k:Nat} {o:Od} (h:i<l.length):ny (l.set i o) k=if i=k then o.n else ny l k:=by
 unfold ny;rw[List.getElem?_set];split
 ·rename_i e;subst e;rfl
 ·rfl
theorem Ins.swap {l:List Od} {i j:Nat} {x y:Od} (h:Ins l i (j+1)) (hj:j+1≤i) (hx:l[j]?=some x) (hy:l[j+1]?=some y) (hlt:y.n<x.n):Ins ((l.set (j+1) x).set j y) i j:=fun a b h1 h2 h3=>by
 have e1:=(List.getElem?_eq_some_iff.1 hx).1;have e2:=(List.getElem?_eq_some_iff.1 hy).1;have kx:=tW hx;have ky:=tW hy;have hk:∀ k,ny ((l.set (j+1) x).set j y) k=if j=k then y.n else if j+1=k then x.n else ny l k:=fun k=>by
  rw[kc (by rw[List.length_set];exact e1),kc e2]
 have k0:ny ((l.set (j+1) x).set j y) j=y.n:=by rw[hk,if_pos rfl]
 have k1:ny ((l.set (j+1) x).set j y) (j+1)=x.n:=by rw[hk,if_neg (by omega),if_pos rfl]
 have k2:∀ k,k≠j→k≠j+1→ny ((l.set (j+1) x).set j y) k=ny l k:=fun k n1 n2=>by rw[hk,if_neg (fun e=>n1 e.symm),if_neg (fun e=>n2 e.symm)]
 generalize (l.set (j+1) x).set j y=l' at *
 by_cases hb:b=j+1
 ·subst hb;rw[k1]
  by_cases ha:a=j
  ·subst ha;rw[k0];omega
  ·rw[k2 a ha (by omega),← kx];exact h a j (by omega) (by omega) (by omega)
 ·rw[k2 b h3 hb]
  by_cases ha:a=j
  ·subst ha;rw[k0,← ky];exact h (a+1) b (by omega) h2 (by omega)
  ·by_cases ha2:a=j+1
   ·subst ha2;rw[k1,← kx];exact h j b (by omega) h2 (by omega)
   ·rw[k2 a ha ha2];exact h a b h1 h2 (by omega)
theorem fG {l:List Od} {j:Nat} {x y:Od} (hx:l[j]?=some x) (hy:l[j+1]?=some y):((l.set (j+1) x).set j y).Perm l:=by
 obtain⟨e1,e2⟩:=List.getElem?_eq_some_iff.1 hx;obtain⟨e3,e4⟩:=List.getElem?_eq_some_iff.1 hy;subst e2 e4;exact List.set_set_perm e3 e1
theorem Srt.pw {l:List Od} (h:Srt l l.length):l.Pairwise (fun a b=>a.n≤b.n):=by
 rw[List.pairwise_iff_getElem];intro i j hi hj hij;have:=h i j hij hj;rw[tW (List.getElem?_eq_getElem hi),tW (List.getElem?_eq_getElem hj)] at this;exact this
theorem lG {α:Type} {f:α→List Value} {k:Nat} (hk:∀ x,(f x).length=k) {l:List α} {i:Nat} {x:α} (hi:i<l.length):over (l.flatMap f) (i*k) (f x)=(l.set i x).flatMap f:=by
 have e:l.flatMap f=(l.take i).flatMap f++(l.drop i).flatMap f:=by rw[← List.flatMap_append,List.take_append_drop]
 have hl:((l.take i).flatMap f).length=i*k:=by rw[zB hk,List.length_take];congr 1;omega
 rw[List.drop_eq_getElem_cons hi,List.flatMap_cons] at e;rw[e,← hl,uP,List.set_eq_take_append_cons_drop,if_pos hi,List.flatMap_append,List.flatMap_cons,hk x,← hk l[i],List.drop_left,List.append_assoc]
def ol (a b:Nat):Int:=if a<b then -1 else if b<a then 1 else 0
theorem lC {a b:Nat}:ol a b<0↔a<b:=by
 unfold ol;split
 ·omega
 ·split<;>omega
theorem oJ {a b:Nat}:ol a b=0↔a=b:=by
 unfold ol;split
 ·omega
 ·split<;>omega
theorem sZ (o:Od) (ho:qe o):∃ t,Tryz.prog.keyLits 4 46 (odC o)=some ([.int .u64 (o.e:Int),.int .u8 (o.d:Int),.int .u8 (o.n:Int),.int .u64 ((wd 0 o.z:Nat):Int),.int .u64 ((wd 1 o.z:Nat):Int),.int .u64 ((wd 2 o.z:Nat):Int),.int .u64 ((wd 3 o.z:Nat):Int)]++t):=by
 have c1:Tryz.prog.cellsOf 46=15:=by kernel_rfl
 have c2:Tryz.prog.cellsOf 24=4:=by kernel_rfl
 have c3:Tryz.prog.cellsOf 44=8:=by kernel_rfl
 have c4:Tryz.prog.cellsOf 22=1:=by kernel_rfl
 have c5:Tryz.prog.cellsOf 5=1:=by kernel_rfl
 have w1:(Lit.int .u64 (o.e:Int)).wf=true:=by have:=ho.e;simp[Lit.wf,IntKind.min,IntKind.max,IntKind.signed,IntKind.bits];omega
 have w2:(Lit.int .u8 (o.d:Int)).wf=true:=by have:=ho.d;simp[Lit.wf,IntKind.min,IntKind.max,IntKind.signed,IntKind.bits];omega
 have w3:(Lit.int .u8 (o.n:Int)).wf=true:=by have:=ho.n;simp[Lit.wf,IntKind.min,IntKind.max,IntKind.signed,IntKind.bits];omega
 have k1:Tryz.prog.keyLits 3 22 [.int .u64 (o.e:Int)]=some [.int .u64 (o.e:Int)]:=by simp[Program.keyLits,Tryz.underlying22,w1]
 have k2:Tryz.prog.keyLits 3 5 [.int .u8 (o.d:Int)]=some [.int .u8 (o.d:Int)]:=by simp[Program.keyLits,Tryz.underlying5,w2]
 have k3:Tryz.prog.keyLits 3 5 [.int .u8 (o.n:Int)]=some [.int .u8 (o.n:Int)]:=by simp[Program.keyLits,Tryz.underlying5,w3]
 have k4:Tryz.prog.keyLits 3 24 (zb o.z)=some [.int .u64 ((wd 0 o.z:Nat):Int),.int .u64 ((wd 1 o.z:Nat):Int),.int .u64 ((wd 2 o.z:Nat):Int),.int .u64 ((wd 3 o.z:Nat):Int)]:=by
  have k:=fun i=>abw i o.z;have r:List.range 4=[0,1,2,3]:=rfl;unfold Program.keyLits;simp[Tryz.underlying24,c2,c4,r,Program.keyLits,Tryz.underlying22,k]
 obtain⟨l5,k5⟩:=nE o.c o.s;refine⟨l5,?_⟩;unfold Program.keyLits;simp[Tryz.underlying46,c1,c2,c3,c4,c5,zb] at k1 k2 k3 k4 k5 ⊢;simp[k1,k2,k3,k4,k5]
def acN (a b:Od):Prop:=a.e≠b.e∨a.d≠b.d∨a.n≠b.n∨a.z≠b.z
section
variable {w0:World} {gs:List Nat} {K:List (Nat × Value)} {L:List Ent}
theorem rV {x y:Operand} {yt ty:TypeId} {o u:Od} (ho:qe o) (hu:qe u) (hne:acN o u) (hx:ev K x=some (.agg (odC o).toArray)) (hy:ev K y=some (.agg (odC u).toArray)):Does Tryz.prog w0 gs K L (.binOp .eql 46 x y yt) ty (.bool false):=by
 intro ac w hk _ oo hoo _;obtain⟨t1,k1⟩:=sZ o ho;obtain⟨t2,k2⟩:=sZ u hu;obtain⟨r,hr,hiff⟩:=run_equalIn_deep (P:=Tryz.prog) 9996 4 46 (by kernel_rfl) w 4 4 (.agg (odC o).toArray) (.agg (odC u).toArray) _ _ (by kernel_rfl) (by kernel_rfl) (by simpa [Value.cells] using k1) (by simpa [Value.cells] using k2);have e:r=false:=by
  cases r with
  | false=>rfl
  | true =>
   have h:=hiff.1 rfl;simp only[List.cons_append,List.nil_append,List.cons.injEq,Lit.int.injEq,true_and,Int.ofNat_inj] at h;obtain⟨h1,h2,h3,z0,z1,z2,z3,_⟩:=h
   rcases hne with h'|h'|h'|h'
   ·exact absurd h1 h'
   ·exact absurd h2 h'
   ·exact absurd h3 h'
   ·exact absurd (ag ho.z hu.z z0 z1 z2 z3) h'
 subst e;simp only[execOp,hoo,hk.eval hx,hk.eval hy,Sem.run_bind,ss,Result.andThen_ok,run_eql_struct,hr,Sem.run_pure]
end
end Sx
end
end Go.Proofs.YtbhblpnjhkddbaaGreat
