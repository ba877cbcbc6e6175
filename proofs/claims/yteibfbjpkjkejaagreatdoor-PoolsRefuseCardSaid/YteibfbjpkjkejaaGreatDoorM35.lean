/- Part 35 of the proof. -/
import Derived.Test.YteibfbjpkjkejaaGreatDoorM32
import Derived.Test.YteibfbjpkjkejaaGreatDoorM34
set_option linter.unusedSimpArgs false
set_option linter.unusedVariables false
namespace Go.Proofs.YteibfbjpkjkejaaGreatDoor
section
open Go Go.RowKit Go.BigFrame
namespace Sx
attribute [local irreducible] DQ DQS WC WO WX wd
def oF (n:Nat) (N:List (Nat × Nat)):Bool:=decide (1≤n) && decide (n≤N.length)
theorem sn {n:Nat} {N:List (Nat × Nat)} (h:oF n N=true):1≤n∧n≤N.length:=by
 unfold oF at h;simp at h;exact h
section
variable (p q g h:Nat) (f sec:Int) (pt:Option Addr) (c:Nat) (N:List (Nat × Nat))
theorem aG (n:Nat) (hn:n<256) (hNl:N.length≤1099511627776):Fn Tryz.prog 44 [stV p q g h f sec (.slice pt N.length c),.int .u8 (n:Int)] Tr (Is (.bool (oF n N))):=by
 have hcv:IntKind.i64.wrap (n:Int)=(n:Int):=i64_in (by omega) (by omega);unfold oF
 by_cases h1:1≤n
 ·rw[decide_eq_true h1,Bool.true_and];have d1:decide ((1:Int)≤(n:Int))=true:=decide_eq_true (by omega);have d2:decide ((n:Int)≤(N.length:Int))=decide (n≤N.length):=by simp
  refine Fn.enter Tryz.func44 rfl rfl rfl ?_;intro w hw
  repeat (first|refine Tw ?_|(refine Tm ?_;intro _)|exact Tz)
  rw[d1]
  repeat (first|refine Ta ?_|(refine Tm ?_;intro _)|refine WO.does (zM rfl hcv) ?_|refine Tc ?_|exact Tz)
  rw[d2]
  repeat (first|refine Tw ?_|(refine Tm ?_;intro _)|exact Tz)
 ·rw[decide_eq_false h1,Bool.false_and];have d1:decide ((1:Int)≤(n:Int))=false:=decide_eq_false (by omega);refine Fn.enter Tryz.func44 rfl rfl rfl ?_;intro w hw
  repeat (first|refine Tw ?_|(refine Tm ?_;intro _)|exact Tz)
  rw[d1]
  repeat (first|refine Tw ?_|(refine Tm ?_;intro _)|exact Tz)
end
def abL (ep d n:Nat):List Nat:=be 8 ep++be 1 d++be 1 n
theorem sa (ep d n:Nat):(abL ep d n).length=10:=by unfold abL;simp only[List.length_append,zk]
def abW (p q h x key:Nat):Bool:=zJ x x q && yw p h && decide (h ^ x%p=key)
theorem sQ (r:Nat):okV true r=r:=rfl
theorem adq {p h x:Nat} (hm:yw p h=true):h ^ x%p<p:=Nat.mod_lt _ (by have:=(yM hm).1;omega)
def fW:ByteArray:=⟨#[100,114,97,119]⟩
def vk (q x:Nat) (H:List Nat):Nat:=if mi q (yg fW) [be 32 x,H]=0 then 1 else mi q (yg fW) [be 32 x,H]
theorem cv {p q g h:Nat} {f sec:Int} {N:List (Nat × Nat)} (hs:ug p q g h f sec N=true):yw p h=true:=by
 unfold ug at hs;simp only[Bool.and_eq_true] at hs;have hk:=hs.1.2;unfold kB at hk;rw[Bool.and_eq_true] at hk;exact vi hk.1
theorem jh {q x:Nat} {H:List Nat} (h0:0<q) (hq:q<zd):vk q x H<zd:=by
 unfold vk;split
 ·exact yP
 ·exact Nat.lt_trans (vW h0 _ _) hq
theorem fT {n:Nat} (h:n<256):be 1 n=[n]:=by
 simp[be,List.range,List.range.loop];omega
theorem iV {ep d n:Nat} (hd:d<256) (hn:n<256):byC (be 8 ep)++[.int .u8 (d:Int),.int .u8 (n:Int)]=byC (abL ep d n):=by
 unfold abL;rw[fT hd,fT hn,zZ,zZ];simp[byC]
theorem ads {ep d n:Nat}:∀ b∈abL ep d n,b<256:=by
 intro b hb;unfold abL at hb
 rcases List.mem_append.1 hb with hb|hb
 ·rcases List.mem_append.1 hb with hb|hb<;>exact tf b hb
 ·exact tf b hb
abbrev dlV (ep d:Nat) (v y pr:Value) (c s:Nat):Value:=.agg #[.int .u64 (ep:Int),.int .u8 (d:Int),v,y,pr,.int .u64 ((wd 0 c:Nat):Int),.int .u64 ((wd 1 c:Nat):Int),.int .u64 ((wd 2 c:Nat):Int),.int .u64 ((wd 3 c:Nat):Int),.int .u64 ((wd 0 s:Nat):Int),.int .u64 ((wd 1 s:Nat):Int),.int .u64 ((wd 2 s:Nat):Int),.int .u64 ((wd 3 s:Nat):Int)]
abbrev dlC (ep d:Nat) (v y pr:Value) (c s:Nat):List Value:=[.int .u64 (ep:Int),.int .u8 (d:Int),v,y,pr,.int .u64 ((wd 0 c:Nat):Int),.int .u64 ((wd 1 c:Nat):Int),.int .u64 ((wd 2 c:Nat):Int),.int .u64 ((wd 3 c:Nat):Int),.int .u64 ((wd 0 s:Nat):Int),.int .u64 ((wd 1 s:Nat):Int),.int .u64 ((wd 2 s:Nat):Int),.int .u64 ((wd 3 s:Nat):Int)]
end Sx
end
section
open Go Go.RowKit Go.BigFrame
namespace Sx
attribute [local irreducible] wd
def uK:ByteArray:=⟨#[115,104,97,114,101]⟩
def vz:ByteArray:=⟨#[100,101,97,108,105,110,103]⟩
def bp:ByteArray:=⟨#[115,105,103,110]⟩
def exN (p a n:Nat):Nat:=okV (yw p a) (a ^ n%p)
def shN (q:Nat) (l:List Nat) (i:Nat):Nat:=yE l (i+1)%q
def shL (q:Nat) (l:List Nat) (n:Nat):List Nat:=(List.range n).map (shN q l)
def ky (N:List (Nat × Nat)) (i:Nat):Nat:=(N.getD i (0,0)).2
def dV (p q g:Nat) (l:List Nat) (i:Nat):Nat:=exN p g (shN q l i)
def dY (p q:Nat) (l:List Nat) (N:List (Nat × Nat)) (i:Nat):Nat:=exN p (ky N i) (shN q l i)
def dH (ep d v y i:Nat):List Nat:=hOf (yg uK) [abL ep d (i+1),be 32 v,be 32 y]
def pfN (p q g x k draw:Nat):Nat × Nat:=(okV (prB p q x g k draw) (prC p q (yg uK) x g k draw),okV (prB p q x g k draw) ((draw+x*prC p q (yg uK) x g k draw%q)%q))
def dP (p q g:Nat) (l:List Nat) (N:List (Nat × Nat)) (ep d x i:Nat):Nat × Nat :=
 pfN p q g (shN q l i) (ky N i) (vk q x (dH ep d (dV p q g l i) (dY p q l N i) i))
def yQ (ep d:Nat) (V Y:List Nat) (Pr:List (Nat × Nat)):List Nat:=hOf (yg vz) [be 8 ep++be 1 d,V.flatMap (be 32),Y.flatMap (be 32),Pr.flatMap fun k=>be 32 k.1++be 32 k.2]
def sgB (p q g x draw:Nat):Bool:=yw p g && zJ x x q && zJ draw draw q && decide (x≠0) && decide (draw≠0)
def sgC (p q g x draw:Nat) (H:List Nat):Nat:=mi q (yg bp) [be 32 (g ^ x%p),be 32 (g ^ draw%p),H]
def sgN (p q g x draw:Nat) (H:List Nat):Nat × Nat:=(okV (sgB p q g x draw) (sgC p q g x draw H),okV (sgB p q g x draw) ((draw+x*sgC p q g x draw H%q)%q))
def dVs (p q g:Nat) (l:List Nat) (n:Nat):List Nat:=(List.range n).map (dV p q g l)
def dYs (p q:Nat) (l:List Nat) (N:List (Nat × Nat)) (n:Nat):List Nat:=(List.range n).map (dY p q l N)
def dPs (p q g:Nat) (l:List Nat) (N:List (Nat × Nat)) (ep d x n:Nat):List (Nat × Nat):=(List.range n).map (dP p q g l N ep d x)
def dHs (p q g:Nat) (l:List Nat) (N:List (Nat × Nat)) (ep d x n:Nat):List Nat:=yQ ep d (dVs p q g l n) (dYs p q l N n) (dPs p q g l N ep d x n)
def dSg (p q g:Nat) (l:List Nat) (N:List (Nat × Nat)) (ep d x n:Nat):Nat × Nat:=sgN p q g x (vk q x (dHs p q g l N ep d x n)) (dHs p q g l N ep d x n)
def sgK (N:List (Nat × Nat)) (d:Nat):Nat:=(N.getD (d - 1) (0,0)).1
def ie (p q g h:Nat) (f sec:Int) (N:List (Nat × Nat)) (d:Nat) (l:List Nat) (x:Nat):Bool :=
 ug p q g h f sec N && oF d N && (decide ((l.length:Int)=f+sec) && tN q l) && abW p q g x (sgK N d)
theorem rB {α:Type} (f:Nat→α) {i:Nat}:(List.range (i+1)).map f=(List.range i).map f++[f i]:=by
 rw[List.range_succ,List.map_append];rfl
theorem tw {p a n:Nat} (hp:p<zd):exN p a n<zd:=by
 unfold exN;cases h:yw p a with
 | false=>exact zA
 | true=>exact Nat.lt_trans (adq h) hp
theorem adE {q i:Nat} {l:List Nat} (h:0<q):shN q l i<q:=Nat.mod_lt _ h
theorem lY {b:Bool} {x:Nat} (h:x<zd):okV b x<zd:=by
 cases b with
 | false=>exact zA
 | true=>exact h
theorem acG {p q g x k draw:Nat} (h0:0<q) (hq:q<zd):(pfN p q g x k draw).1<zd∧(pfN p q g x k draw).2<zd :=
 ⟨lY (Nat.lt_trans (vW h0 _ _) hq),lY (Nat.lt_trans (Nat.mod_lt _ h0) hq)⟩
theorem adw {p q g x draw:Nat} {H:List Nat} (h0:0<q) (hq:q<zd):(sgN p q g x draw H).1<zd∧(sgN p q g x draw H).2<zd :=
 ⟨lY (Nat.lt_trans (vW h0 _ _) hq),lY (Nat.lt_trans (Nat.mod_lt _ h0) hq)⟩
theorem vM {p q g h:Nat} {f sec:Int} {N:List (Nat × Nat)} (hs:ug p q g h f sec N=true):1≤N.length∧N.length≤7∧N.length<q∧0≤f∧1≤sec∧f+sec≤5∧yw p g=true∧yw p h=true:=by
 have hm:=cv hs;unfold ug at hs;simp only[Bool.and_eq_true,decide_eq_true_eq] at hs;obtain⟨⟨⟨⟨⟨⟨⟨⟨⟨⟨h1,h2⟩,h3⟩,h4⟩,h5⟩,h6⟩,h7⟩,h8⟩,h9⟩,_⟩,_⟩:=hs;unfold kB at h9;rw[Bool.and_eq_true] at h9;exact⟨by omega,by omega,by omega,h1,h3,by omega,vi h9.1,hm⟩
theorem acR {N:List (Nat × Nat)} {i:Nat} {k:Nat × Nat} (h:N[i]?=some k):ky N i=k.2:=by
 simp[ky,List.getD,h]
theorem aaH {d:Nat} {N:List (Nat × Nat)} {k:Nat × Nat} (h:N[d - 1]?=some k):sgK N d=k.1:=by
 simp[sgK,List.getD,h]
theorem ach {q n i:Nat} {l:List Nat} (h:i<n):(shL q l n)[i]?=some (shN q l i):=by
 simp[shL,h]
theorem rc {ep d:Nat} {V Y:List Nat} {Pr:List (Nat × Nat)}:∀ X∈[be 8 ep++be 1 d,V.flatMap (be 32),Y.flatMap (be 32),Pr.flatMap fun k=>be 32 k.1++be 32 k.2],∀ x∈X,x<256:=by
 intro X hX x hx;simp only[List.mem_cons,List.not_mem_nil,or_false] at hX
 rcases hX with rfl|rfl|rfl|rfl
 ·rcases List.mem_append.1 hx with h|h<;>exact tf _ h
 ·obtain⟨_,_,h⟩:=List.mem_flatMap.1 hx;exact tf _ h
 ·obtain⟨_,_,h⟩:=List.mem_flatMap.1 hx;exact tf _ h
 ·obtain⟨_,_,h⟩:=List.mem_flatMap.1 hx
  rcases List.mem_append.1 h with h|h<;>exact tf _ h
theorem uu (l:List Nat):(l.flatMap (be 32)).length=l.length*32:=by
 induction l with
 | nil=>rfl
 | cons a r ih=>rw[List.flatMap_cons,List.length_append,zk,ih,List.length_cons];omega
theorem uX (l:List (Nat × Nat)):(l.flatMap fun k=>be 32 k.1++be 32 k.2).length=l.length*64:=by
 induction l with
 | nil=>rfl
 | cons a r ih=>rw[List.flatMap_cons,List.length_append,List.length_append,zk,zk,ih,List.length_cons];omega
theorem acn {p q g x key:Nat}:abW p q g x key=(zJ x x q && yw p g && decide (exN p g x=key)):=by
 unfold abW exN;cases yw p g with
 | false=>simp
 | true=>rfl
end Sx
end
end Go.Proofs.YteibfbjpkjkejaaGreatDoor
