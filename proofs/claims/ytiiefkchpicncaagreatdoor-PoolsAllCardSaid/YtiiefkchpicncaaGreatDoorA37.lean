/- Part 37 of the proof. -/
import Derived.Test.YtiiefkchpicncaaGreatDoorA35
import Derived.Test.YtiiefkchpicncaaGreatDoorA36
set_option linter.unusedSimpArgs false
set_option linter.unusedVariables false
namespace Go.Proofs.YtiiefkchpicncaaGreatDoor
section
open Go Go.RowKit Go.BigFrame
namespace Sx
attribute [local irreducible] DQ WC WO WX wd
def pJ (n:Nat) (N:List (Nat × Nat)):Bool:=decide (1≤n) && decide (n≤N.length)
theorem si {n:Nat} {N:List (Nat × Nat)} (h:pJ n N=true):1≤n∧n≤N.length:=by
 unfold pJ at h;simp at h;exact h
section
variable (p q g h:Nat) (f sec:Int) (pt:Option Addr) (c:Nat) (N:List (Nat × Nat))
theorem aaI (n:Nat) (hn:n<256) (hNl:N.length≤1099511627776):Fn Tryz.prog 59 [stV p q g h f sec (.slice pt N.length c),.int .u8 (n:Int)] Tr (Is (.bool (pJ n N))):=by
 have hcv:IntKind.i64.wrap (n:Int)=(n:Int):=i64_in Om Om;unfold pJ
 by_cases h1:1≤n
 ·rw[decide_eq_true h1,Bool.true_and];have d1:decide ((1:Int)≤(n:Int))=true:=decide_eq_true Om;have d2:decide ((n:Int)≤(N.length:Int))=decide (n≤N.length):=by simp
  refine Fn.enter Tryz.func59 rfl rfl rfl ?_;intro w hw
  repeat (first|refine Tw ?_|(refine Tm ?_;intro _)|exact Tz)
  rw[d1]
  repeat (first|refine Ta ?_|(refine Tm ?_;intro _)|refine WO.does (zD rfl hcv) ?_|refine Tc ?_|exact Tz)
  rw[d2]
  repeat (first|refine Tw ?_|(refine Tm ?_;intro _)|exact Tz)
 ·rw[decide_eq_false h1,Bool.false_and];have d1:decide ((1:Int)≤(n:Int))=false:=decide_eq_false Om;refine Fn.enter Tryz.func59 rfl rfl rfl ?_;intro w hw
  repeat (first|refine Tw ?_|(refine Tm ?_;intro _)|exact Tz)
  rw[d1]
  repeat (first|refine Tw ?_|(refine Tm ?_;intro _)|exact Tz)
end
def abL (ep d n:Nat):List Nat:=be 8 ep++be 1 d++be 1 n
theorem tS (ep d n:Nat):(abL ep d n).length=10:=by unfold abL;simp only[List.length_append,zk]
def acU (p q h x key:Nat):Bool:=zE x x q && yq p h && decide (h ^ x%p=key)
theorem sT (r:Nat):okV true r=r:=rfl
theorem ad2 {p h x:Nat} (hm:yq p h=true):h ^ x%p<p:=Nat.mod_lt _ (by have:=(yI hm).1;omega)
def fR:ByteArray:=⟨#[100,114,97,119]⟩
def vd (q x:Nat) (H:List Nat):Nat:=if mx q (yb fR) [be 32 x,H]=0 then 1 else mx q (yb fR) [be 32 x,H]
theorem bf {p q g h:Nat} {f sec:Int} {N:List (Nat × Nat)} (hs:v6 p q g h f sec N=true):yq p h=true:=by
 unfold v6 at hs;simp only[Bool.and_eq_true] at hs;have hk:=hs.1.2;unfold kB at hk;rw[Bool.and_eq_true] at hk;exact y8 hk.1
theorem kl {q x:Nat} {H:List Nat} (h0:0<q) (hq:q<zd):vd q x H<zd:=by
 unfold vd;split
 ·exact yK
 ·exact Nat.lt_trans (vM h0 _ _) hq
theorem db {n:Nat} (h:n<256):be 1 n=[n]:=by
 simp[be,List.range,List.range.loop];omega
theorem em {ep d n:Nat} (hd:d<256) (hn:n<256):byC (be 8 ep)++[.int .u8 (d:Int),.int .u8 (n:Int)]=byC (abL ep d n):=by
 unfold abL;rw[db hd,db hn,zS,zS];simp[byC]
theorem adP {ep d n:Nat}:∀ b∈abL ep d n,b<256:=by
 intro b hb;unfold abL at hb
 rcases List.mem_append.1 hb with hb|hb
 ·rcases List.mem_append.1 hb with hb|hb<;>exact tj b hb
 ·exact tj b hb
abbrev dlV (ep d:Nat) (v y pr:Value) (c s:Nat):Value:=.agg #[.int .u64 (ep:Int),.int .u8 (d:Int),v,y,pr,.int .u64 ((wd 0 c:Nat):Int),.int .u64 ((wd 1 c:Nat):Int),.int .u64 ((wd 2 c:Nat):Int),.int .u64 ((wd 3 c:Nat):Int),.int .u64 ((wd 0 s:Nat):Int),.int .u64 ((wd 1 s:Nat):Int),.int .u64 ((wd 2 s:Nat):Int),.int .u64 ((wd 3 s:Nat):Int)]
abbrev dlC (ep d:Nat) (v y pr:Value) (c s:Nat):List Value:=[.int .u64 (ep:Int),.int .u8 (d:Int),v,y,pr,.int .u64 ((wd 0 c:Nat):Int),.int .u64 ((wd 1 c:Nat):Int),.int .u64 ((wd 2 c:Nat):Int),.int .u64 ((wd 3 c:Nat):Int),.int .u64 ((wd 0 s:Nat):Int),.int .u64 ((wd 1 s:Nat):Int),.int .u64 ((wd 2 s:Nat):Int),.int .u64 ((wd 3 s:Nat):Int)]
end Sx
end
section
open Go Go.RowKit Go.BigFrame
namespace Sx
attribute [local irreducible] wd
def uA:ByteArray:=⟨#[115,104,97,114,101]⟩
def vc:ByteArray:=⟨#[100,101,97,108,105,110,103]⟩
def bi:ByteArray:=⟨#[115,105,103,110]⟩
def exN (p a n:Nat):Nat:=okV (yq p a) (a ^ n%p)
def shN (q:Nat) (l:List Nat) (i:Nat):Nat:=yA l (i+1)%q
def shL (q:Nat) (l:List Nat) (n:Nat):List Nat:=(List.range n).map (shN q l)
def ky (N:List (Nat × Nat)) (i:Nat):Nat:=(N.getD i (0,0)).2
def dV (p q g:Nat) (l:List Nat) (i:Nat):Nat:=exN p g (shN q l i)
def dY (p q:Nat) (l:List Nat) (N:List (Nat × Nat)) (i:Nat):Nat:=exN p (ky N i) (shN q l i)
def dH (ep d v y i:Nat):List Nat:=hOf (yb uA) [abL ep d (i+1),be 32 v,be 32 y]
def pfN (p q g x k draw:Nat):Nat × Nat:=(okV (prB p q x g k draw) (prC p q (yb uA) x g k draw),okV (prB p q x g k draw) ((draw+x*prC p q (yb uA) x g k draw%q)%q))
def dP (p q g:Nat) (l:List Nat) (N:List (Nat × Nat)) (ep d x i:Nat):Nat × Nat :=
 pfN p q g (shN q l i) (ky N i) (vd q x (dH ep d (dV p q g l i) (dY p q l N i) i))
def yN (ep d:Nat) (V Y:List Nat) (Pr:List (Nat × Nat)):List Nat:=hOf (yb vc) [be 8 ep++be 1 d,V.flatMap (be 32),Y.flatMap (be 32),Pr.flatMap fun k=>be 32 k.1++be 32 k.2]
def sgB (p q g x draw:Nat):Bool:=yq p g && zE x x q && zE draw draw q && decide (x≠0) && decide (draw≠0)
def sgC (p q g x draw:Nat) (H:List Nat):Nat:=mx q (yb bi) [be 32 (g ^ x%p),be 32 (g ^ draw%p),H]
def sgN (p q g x draw:Nat) (H:List Nat):Nat × Nat:=(okV (sgB p q g x draw) (sgC p q g x draw H),okV (sgB p q g x draw) ((draw+x*sgC p q g x draw H%q)%q))
def dVs (p q g:Nat) (l:List Nat) (n:Nat):List Nat:=(List.range n).map (dV p q g l)
def dYs (p q:Nat) (l:List Nat) (N:List (Nat × Nat)) (n:Nat):List Nat:=(List.range n).map (dY p q l N)
def dPs (p q g:Nat) (l:List Nat) (N:List (Nat × Nat)) (ep d x n:Nat):List (Nat × Nat):=(List.range n).map (dP p q g l N ep d x)
def dHs (p q g:Nat) (l:List Nat) (N:List (Nat × Nat)) (ep d x n:Nat):List Nat:=yN ep d (dVs p q g l n) (dYs p q l N n) (dPs p q g l N ep d x n)
def dSg (p q g:Nat) (l:List Nat) (N:List (Nat × Nat)) (ep d x n:Nat):Nat × Nat:=sgN p q g x (vd q x (dHs p q g l N ep d x n)) (dHs p q g l N ep d x n)
def sgK (N:List (Nat × Nat)) (d:Nat):Nat:=(N.getD (d - 1) (0,0)).1
def jT (p q g h:Nat) (f sec:Int) (N:List (Nat × Nat)) (d:Nat) (l:List Nat) (x:Nat):Bool :=
 v6 p q g h f sec N && pJ d N && (decide ((l.length:Int)=f+sec) && tP q l) && acU p q g x (sgK N d)
theorem rz {α:Type} (f:Nat→α) {i:Nat}:(List.range (i+1)).map f=(List.range i).map f++[f i]:=by
 rw[List.range_succ,List.map_append];rfl
theorem tz {p a n:Nat} (hp:p<zd):exN p a n<zd:=by
 unfold exN;cases h:yq p a with
 | false=>exact zy
 | true=>exact Nat.lt_trans (ad2 h) hp
theorem ad0 {q i:Nat} {l:List Nat} (h:0<q):shN q l i<q:=Nat.mod_lt _ h
theorem kd {b:Bool} {x:Nat} (h:x<zd):okV b x<zd:=by
 cases b with
 | false=>exact zy
 | true=>exact h
theorem aek {p q g x k draw:Nat} (h0:0<q) (hq:q<zd):(pfN p q g x k draw).1<zd∧(pfN p q g x k draw).2<zd :=
 ⟨kd (Nat.lt_trans (vM h0 _ _) hq),kd (Nat.lt_trans (Nat.mod_lt _ h0) hq)⟩
theorem adA {p q g x draw:Nat} {H:List Nat} (h0:0<q) (hq:q<zd):(sgN p q g x draw H).1<zd∧(sgN p q g x draw H).2<zd :=
 ⟨kd (Nat.lt_trans (vM h0 _ _) hq),kd (Nat.lt_trans (Nat.mod_lt _ h0) hq)⟩
theorem vu {p q g h:Nat} {f sec:Int} {N:List (Nat × Nat)} (hs:v6 p q g h f sec N=true):1≤N.length∧N.length≤7∧N.length<q∧0≤f∧1≤sec∧f+sec≤5∧yq p g=true∧yq p h=true:=by
 have hm:=bf hs;unfold v6 at hs;simp only[Bool.and_eq_true,decide_eq_true_eq] at hs;obtain⟨⟨⟨⟨⟨⟨⟨⟨⟨⟨h1,h2⟩,h3⟩,h4⟩,h5⟩,h6⟩,h7⟩,h8⟩,h9⟩,_⟩,_⟩:=hs;unfold kB at h9;rw[Bool.and_eq_true] at h9;exact⟨by omega,by omega,by omega,h1,h3,by omega,y8 h9.1,hm⟩
theorem aeg {N:List (Nat × Nat)} {i:Nat} {k:Nat × Nat} (h:N[i]?=some k):ky N i=k.2:=by
 simp[ky,List.getD,h]
theorem acg {d:Nat} {N:List (Nat × Nat)} {k:Nat × Nat} (h:N[d - 1]?=some k):sgK N d=k.1:=by
 simp[sgK,List.getD,h]
theorem abp {q n i:Nat} {l:List Nat} (h:i<n):(shL q l n)[i]?=some (shN q l i):=by
 simp[shL,h]
theorem rJ {ep d:Nat} {V Y:List Nat} {Pr:List (Nat × Nat)}:∀ X∈[be 8 ep++be 1 d,V.flatMap (be 32),Y.flatMap (be 32),Pr.flatMap fun k=>be 32 k.1++be 32 k.2],∀ x∈X,x<256:=by
 intro X hX x hx;simp only[List.mem_cons,List.not_mem_nil,or_false] at hX
 rcases hX with rfl|rfl|rfl|rfl
 ·rcases List.mem_append.1 hx with h|h<;>exact tj _ h
 ·obtain⟨_,_,h⟩:=List.mem_flatMap.1 hx;exact tj _ h
 ·obtain⟨_,_,h⟩:=List.mem_flatMap.1 hx;exact tj _ h
 ·obtain⟨_,_,h⟩:=List.mem_flatMap.1 hx
  rcases List.mem_append.1 h with h|h<;>exact tj _ h
theorem uh (l:List Nat):(l.flatMap (be 32)).length=l.length*32:=by
 induction l with
 | nil=>rfl
 | cons a r ih=>rw[List.flatMap_cons,List.length_append,zk,ih,List.length_cons];omega
theorem uU (l:List (Nat × Nat)):(l.flatMap fun k=>be 32 k.1++be 32 k.2).length=l.length*64:=by
 induction l with
 | nil=>rfl
 | cons a r ih=>rw[List.flatMap_cons,List.length_append,List.length_append,zk,zk,ih,List.length_cons];omega
theorem acB {p q g x key:Nat}:acU p q g x key=(zE x x q && yq p g && decide (exN p g x=key)):=by
 unfold acU exN;cases yq p g with
 | false=>simp
 | true=>rfl
end Sx
end
end Go.Proofs.YtiiefkchpicncaaGreatDoor
