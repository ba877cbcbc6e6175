/- Part 27 of the proof. -/
import Derived.Test.YtiaibpcaloigkaaGreatDoorG25
import Derived.Test.YtiaibpcaloigkaaGreatDoorG26
set_option linter.unusedSimpArgs false
set_option linter.unusedVariables false
namespace Go.Proofs.YtiaibpcaloigkaaGreatDoor
section
open Go Go.RowKit Go.BigFrame
namespace Sx
attribute [local irreducible] DQ WC WO WX wd
def qD (n:Nat) (N:LP):Bool:=decide (1≤n) && decide (n≤N.length)
theorem si {n:Nat} {N:LP} (h:qD n N=true):1≤n∧n≤N.length:=by
 unfold qD at h;simp at h;exact h
section
variable (p q g h:Nat) (f sec:Int) (pt:Option Addr) (c:Nat) (N:LP)
theorem acB (n:Nat) (hn:n<256) (hNl:N.length≤1099511627776):Fn Tryz.prog 81 [stV p q g h f sec (.slice pt N.length c),.int .u8 (n:Int)] Tr (Is (.bool (qD n N))):=by
 have hcv:IntKind.i64.wrap (n:Int)=(n:Int):=i64_in Om Om;unfold qD
 by_cases h1:1≤n
 ·rw[decide_eq_true h1,Bool.true_and];have d1:decide ((1:Int)≤(n:Int))=true:=decide_eq_true Om;have d2:decide ((n:Int)≤(N.length:Int))=decide (n≤N.length):=by simp
  refine Fn.enter Tryz.func81 rfl rfl rfl ?_;intro w hw
  repeat (first|refine Tk ?_|intro _|exact Tz)
  rw[d1]
  repeat (first|refine Tj ?_|intro _|refine WO.does (zr rfl hcv) ?_|refine Tc ?_|exact Tz)
  rw[d2]
  repeat (first|refine Tk ?_|intro _|exact Tz)
 ·rw[decide_eq_false h1,Bool.false_and];have d1:decide ((1:Int)≤(n:Int))=false:=decide_eq_false Om;refine Fn.enter Tryz.func81 rfl rfl rfl ?_;intro w hw
  repeat (first|refine Tk ?_|intro _|exact Tz)
  rw[d1]
  repeat (first|refine Tk ?_|intro _|exact Tz)
end
def abL (ep d n:Nat):List Nat:=be 8 ep++be 1 d++be 1 n
theorem sa (ep d n:Nat):(abL ep d n).length=10:=by unfold abL;simp only[List.length_append,zj]
def adL (p q h x key:Nat):Bool:=zP x x q && yB p h && decide (h ^ x%p=key)
theorem uE (r:Nat):okV true r=r:=rfl
theorem agk {p h x:Nat} (hm:yB p h=true):h ^ x%p<p:=Nat.mod_lt _ (by have:=(y7 hm).1;omega)
def mu:ByteArray:=⟨#[100,114,97,119]⟩
def yw (q x:Nat) (H:LN):Nat:=if nB q (zN mu) [be 32 x,H]=0 then 1 else nB q (zN mu) [be 32 x,H]
theorem abo {p q g h:Nat} {f sec:Int} {N:LP} (hs:y5 p q g h f sec N=true):yB p h=true:=by
 unfold y5 at hs;simp only[Bool.and_eq_true] at hs;have hk:=hs.1.2;unfold kB at hk;rw[Bool.and_eq_true] at hk;exact vj hk.1
theorem jw {q x:Nat} {H:LN} (h0:0<q) (hq:q<ze):yw q x H<ze:=by
 unfold yw;split
 ·exact y8
 ·exact Nat.lt_trans (vX h0 _ _) hq
theorem cT {n:Nat} (h:n<256):be 1 n=[n]:=by
 simp[be,List.range,List.range.loop];omega
theorem di {ep d n:Nat} (hd:d<256) (hn:n<256):byC (be 8 ep)++[.int .u8 (d:Int),.int .u8 (n:Int)]=byC (abL ep d n):=by
 unfold abL;rw[cT hd,cT hn,z8,z8];simp[byC]
theorem afh {ep d n:Nat}:∀ b∈abL ep d n,b<256:=by
 intro b hb;unfold abL at hb
 rcases List.mem_append.1 hb with hb|hb
 ·rcases List.mem_append.1 hb with hb|hb<;>exact yZ b hb
 ·exact yZ b hb
abbrev dlV (ep d:Nat) (v y pr:Value) (c s:Nat):Value:=.agg #[.int .u64 (ep:Int),.int .u8 (d:Int),v,y,pr,.int .u64 ((wd 0 c:Nat):Int),.int .u64 ((wd 1 c:Nat):Int),.int .u64 ((wd 2 c:Nat):Int),.int .u64 ((wd 3 c:Nat):Int),.int .u64 ((wd 0 s:Nat):Int),.int .u64 ((wd 1 s:Nat):Int),.int .u64 ((wd 2 s:Nat):Int),.int .u64 ((wd 3 s:Nat):Int)]
abbrev dlC (ep d:Nat) (v y pr:Value) (c s:Nat):List Value:=[.int .u64 (ep:Int),.int .u8 (d:Int),v,y,pr,.int .u64 ((wd 0 c:Nat):Int),.int .u64 ((wd 1 c:Nat):Int),.int .u64 ((wd 2 c:Nat):Int),.int .u64 ((wd 3 c:Nat):Int),.int .u64 ((wd 0 s:Nat):Int),.int .u64 ((wd 1 s:Nat):Int),.int .u64 ((wd 2 s:Nat):Int),.int .u64 ((wd 3 s:Nat):Int)]
end Sx
end
section
open Go Go.RowKit Go.BigFrame
namespace Sx
attribute [local irreducible] wd
def u7:ByteArray:=⟨#[115,104,97,114,101]⟩
def tU:ByteArray:=⟨#[100,101,97,108,105,110,103]⟩
def aaT:ByteArray:=⟨#[115,105,103,110]⟩
def exN (p a n:Nat):Nat:=okV (yB p a) (a ^ n%p)
def shN (q:Nat) (l:LN) (i:Nat):Nat:=ye l (i+1)%q
def shL (q:Nat) (l:LN) (n:Nat):List Nat:=(List.range n).map (shN q l)
def ky (N:LP) (i:Nat):Nat:=(N.getD i (0,0)).2
def dV (p q g:Nat) (l:LN) (i:Nat):Nat:=exN p g (shN q l i)
def dY (p q:Nat) (l:LN) (N:LP) (i:Nat):Nat:=exN p (ky N i) (shN q l i)
def dH (ep d v y i:Nat):List Nat:=hOf (zN u7) [abL ep d (i+1),be 32 v,be 32 y]
def pfN (p q g x k draw:Nat):Nat × Nat:=(okV (prB p q x g k draw) (prC p q (zN u7) x g k draw),okV (prB p q x g k draw) ((draw+x*prC p q (zN u7) x g k draw%q)%q))
def dP (p q g:Nat) (l:LN) (N:LP) (ep d x i:Nat):Nat × Nat :=
 pfN p q g (shN q l i) (ky N i) (yw q x (dH ep d (dV p q g l i) (dY p q l N i) i))
def yN (ep d:Nat) (V Y:LN) (Pr:LP):List Nat:=hOf (zN tU) [be 8 ep++be 1 d,V.flatMap (be 32),Y.flatMap (be 32),Pr.flatMap fun k=>be 32 k.1++be 32 k.2]
def sgB (p q g x draw:Nat):Bool:=yB p g && zP x x q && zP draw draw q && decide (x≠0) && decide (draw≠0)
def sgC (p q g x draw:Nat) (H:LN):Nat:=nB q (zN aaT) [be 32 (g ^ x%p),be 32 (g ^ draw%p),H]
def sgN (p q g x draw:Nat) (H:LN):Nat × Nat:=(okV (sgB p q g x draw) (sgC p q g x draw H),okV (sgB p q g x draw) ((draw+x*sgC p q g x draw H%q)%q))
def dVs (p q g:Nat) (l:LN) (n:Nat):List Nat:=(List.range n).map (dV p q g l)
def dYs (p q:Nat) (l:LN) (N:LP) (n:Nat):List Nat:=(List.range n).map (dY p q l N)
def dPs (p q g:Nat) (l:LN) (N:LP) (ep d x n:Nat):List (Nat × Nat):=(List.range n).map (dP p q g l N ep d x)
def dHs (p q g:Nat) (l:LN) (N:LP) (ep d x n:Nat):List Nat:=yN ep d (dVs p q g l n) (dYs p q l N n) (dPs p q g l N ep d x n)
def dSg (p q g:Nat) (l:LN) (N:LP) (ep d x n:Nat):Nat × Nat:=sgN p q g x (yw q x (dHs p q g l N ep d x n)) (dHs p q g l N ep d x n)
def sgK (N:LP) (d:Nat):Nat:=(N.getD (d - 1) (0,0)).1
def gm (p q g h:Nat) (f sec:Int) (N:LP) (d:Nat) (l:LN) (x:Nat):Bool :=
 y5 p q g h f sec N && qD d N && (decide ((l.length:Int)=f+sec) && uz q l) && adL p q g x (sgK N d)
theorem yD {α:Type} (f:Nat→α) {i:Nat}:(List.range (i+1)).map f=(List.range i).map f++[f i]:=by
 rw[List.range_succ,List.map_append];rfl
theorem ub {p a n:Nat} (hp:p<ze):exN p a n<ze:=by
 unfold exN;cases h:yB p a with
 | false=>exact zE
 | true=>exact Nat.lt_trans (agk h) hp
theorem aga {q i:Nat} {l:LN} (h:0<q):shN q l i<q:=Nat.mod_lt _ h
theorem jo {b:Bool} {x:Nat} (h:x<ze):okV b x<ze:=by
 cases b with
 | false=>exact zE
 | true=>exact h
theorem agz {p q g x k draw:Nat} (h0:0<q) (hq:q<ze):(pfN p q g x k draw).1<ze∧(pfN p q g x k draw).2<ze :=
 ⟨jo (Nat.lt_trans (vX h0 _ _) hq),jo (Nat.lt_trans (Nat.mod_lt _ h0) hq)⟩
theorem ago {p q g x draw:Nat} {H:LN} (h0:0<q) (hq:q<ze):(sgN p q g x draw H).1<ze∧(sgN p q g x draw H).2<ze :=
 ⟨jo (Nat.lt_trans (vX h0 _ _) hq),jo (Nat.lt_trans (Nat.mod_lt _ h0) hq)⟩
theorem zS {p q g h:Nat} {f sec:Int} {N:LP} (hs:y5 p q g h f sec N=true):1≤N.length∧N.length≤7∧N.length<q∧0≤f∧1≤sec∧f+sec≤5∧yB p g=true∧yB p h=true:=by
 have hm:=abo hs;unfold y5 at hs;simp only[Bool.and_eq_true,decide_eq_true_eq] at hs;obtain⟨⟨⟨⟨⟨⟨⟨⟨⟨⟨h1,h2⟩,h3⟩,h4⟩,h5⟩,h6⟩,h7⟩,h8⟩,h9⟩,_⟩,_⟩:=hs;unfold kB at h9;rw[Bool.and_eq_true] at h9;exact⟨by omega,by omega,by omega,h1,h3,by omega,vj h9.1,hm⟩
theorem afX {N:LP} {i:Nat} {k:Nat × Nat} (h:N[i]?=some k):ky N i=k.2:=by
 simp[ky,List.getD,h]
theorem aeQ {d:Nat} {N:LP} {k:Nat × Nat} (h:N[d - 1]?=some k):sgK N d=k.1:=by
 simp[sgK,List.getD,h]
theorem adm {q n i:Nat} {l:LN} (h:i<n):(shL q l n)[i]?=some (shN q l i):=by
 simp[shL,h]
theorem kl {ep d:Nat} {V Y:LN} {Pr:LP}:∀ X∈[be 8 ep++be 1 d,V.flatMap (be 32),Y.flatMap (be 32),Pr.flatMap fun k=>be 32 k.1++be 32 k.2],∀ x∈X,x<256:=by
 intro X hX x hx;simp only[List.mem_cons,List.not_mem_nil,or_false] at hX
 rcases hX with rfl|rfl|rfl|rfl
 ·rcases List.mem_append.1 hx with h|h<;>exact yZ _ h
 ·obtain⟨_,_,h⟩:=List.mem_flatMap.1 hx;exact yZ _ h
 ·obtain⟨_,_,h⟩:=List.mem_flatMap.1 hx;exact yZ _ h
 ·obtain⟨_,_,h⟩:=List.mem_flatMap.1 hx
  rcases List.mem_append.1 h with h|h<;>exact yZ _ h
theorem sr (l:LN):(l.flatMap (be 32)).length=l.length*32:=by
 induction l with
 | nil=>rfl
 | cons a r ih=>rw[List.flatMap_cons,List.length_append,zj,ih,List.length_cons];omega
theorem oc (l:LP):(l.flatMap fun k=>be 32 k.1++be 32 k.2).length=l.length*64:=by
 induction l with
 | nil=>rfl
 | cons a r ih=>rw[List.flatMap_cons,List.length_append,List.length_append,zj,zj,ih,List.length_cons];omega
theorem aex {p q g x key:Nat}:adL p q g x key=(zP x x q && yB p g && decide (exN p g x=key)):=by
 unfold adL exN;cases yB p g with
 | false=>simp
 | true=>rfl
end Sx
end
section
open Go Go.RowKit Go.BigFrame
namespace Sx
attribute [local irreducible] DQ WC WO WX wd
abbrev opC (ep d n z c s:Nat):List Value:=[.int .u64 (ep:Int),.int .u8 (d:Int),.int .u8 (n:Int),.int .u64 ((wd 0 z:Nat):Int),.int .u64 ((wd 1 z:Nat):Int),.int .u64 ((wd 2 z:Nat):Int),.int .u64 ((wd 3 z:Nat):Int),.int .u64 ((wd 0 c:Nat):Int),.int .u64 ((wd 1 c:Nat):Int),.int .u64 ((wd 2 c:Nat):Int),.int .u64 ((wd 3 c:Nat):Int),.int .u64 ((wd 0 s:Nat):Int),.int .u64 ((wd 1 s:Nat):Int),.int .u64 ((wd 2 s:Nat):Int),.int .u64 ((wd 3 s:Nat):Int)]
structure Od where
 e:Nat
 d:Nat
 n:Nat
 z:Nat
 c:Nat
 s:Nat
structure ahQ (o:Od):Prop where
 e:o.e<18446744073709551616
 d:o.d<256
 n:o.n<256
 z:o.z<ze
 c:o.c<ze
 s:o.s<ze
abbrev odC (o:Od):List Value:=opC o.e o.d o.n o.z o.c o.s
end Sx
end
section
open Go Go.RowKit Go.BigFrame
namespace Sx
end Sx
end
end Go.Proofs.YtiaibpcaloigkaaGreatDoor
