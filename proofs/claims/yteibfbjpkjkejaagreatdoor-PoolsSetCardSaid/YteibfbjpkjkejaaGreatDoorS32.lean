/- Part 32 of the proof. -/
import Derived.Test.YteibfbjpkjkejaaGreatDoorS31
import Derived.Test.YteibfbjpkjkejaaGreatDoorS30
set_option linter.unusedSimpArgs false
set_option linter.unusedVariables false
namespace Go.Proofs.YteibfbjpkjkejaaGreatDoor
section
open Go Go.RowKit Go.BigFrame
namespace Sx
attribute [local irreducible] DQ DQS WC WO WX wd
abbrev pfC (k:Nat × Nat):List Value:=ui k.1 k.2
theorem r9 (k:Nat × Nat):(pfC k).length=8:=rfl
set_option maxHeartbeats 2000000
def o7 (n:Nat) (N:List (Nat × Nat)):Bool:=decide (1≤n) && decide (n≤N.length)
theorem sK {n:Nat} {N:List (Nat × Nat)} (h:o7 n N=true):1≤n∧n≤N.length:=by
 unfold o7 at h;simp at h;exact h
section
variable (p q g h:Nat) (f sec:Int) (pt:Option Addr) (c:Nat) (N:List (Nat × Nat))
theorem aaq (n:Nat) (hn:n<256) (hNl:N.length≤1099511627776):Fn Tryz.prog 44 [stV p q g h f sec (.slice pt N.length c),.int .u8 (n:Int)] Tr (Is (.bool (o7 n N))):=by
 have hcv:IntKind.i64.wrap (n:Int)=(n:Int):=i64_in (by omega) (by omega);unfold o7
 by_cases h1:1≤n
 ·rw[decide_eq_true h1,Bool.true_and];have d1:decide ((1:Int)≤(n:Int))=true:=decide_eq_true (by omega);have d2:decide ((n:Int)≤(N.length:Int))=decide (n≤N.length):=by simp
  refine Fn.enter Tryz.func44 rfl rfl rfl ?_;intro w hw
  repeat (first|refine Tw ?_|(refine Tm ?_;intro _)|exact Tz)
  rw[d1]
  repeat (first|refine Ta ?_|(refine Tm ?_;intro _)|refine WO.does (zN rfl hcv) ?_|refine Tc ?_|exact Tz)
  rw[d2]
  repeat (first|refine Tw ?_|(refine Tm ?_;intro _)|exact Tz)
 ·rw[decide_eq_false h1,Bool.false_and];have d1:decide ((1:Int)≤(n:Int))=false:=decide_eq_false (by omega);refine Fn.enter Tryz.func44 rfl rfl rfl ?_;intro w hw
  repeat (first|refine Tw ?_|(refine Tm ?_;intro _)|exact Tz)
  rw[d1]
  repeat (first|refine Tw ?_|(refine Tm ?_;intro _)|exact Tz)
end
def abL (ep d n:Nat):List Nat:=be 8 ep++be 1 d++be 1 n
theorem sE (ep d n:Nat):(abL ep d n).length=10:=by unfold abL;simp only[List.length_append,zk]
def ab4 (p q h x key:Nat):Bool:=zJ x x q && yB p h && decide (h ^ x%p=key)
theorem re (r:Nat):okV true r=r:=rfl
theorem ac0 {p h x:Nat} (hm:yB p h=true):h ^ x%p<p:=Nat.mod_lt _ (by have:=(yT hm).1;omega)
def eJ:ByteArray:=⟨#[100,114,97,119]⟩
def vp (q x:Nat) (H:List Nat):Nat:=if mR q (yj eJ) [be 32 x,H]=0 then 1 else mR q (yj eJ) [be 32 x,H]
theorem ap {p q g h:Nat} {f sec:Int} {N:List (Nat × Nat)} (hs:uc p q g h f sec N=true):yB p h=true:=by
 unfold uc at hs;simp only[Bool.and_eq_true] at hs;have hk:=hs.1.2;unfold kB at hk;rw[Bool.and_eq_true] at hk;exact vm hk.1
theorem jt {q x:Nat} {H:List Nat} (h0:0<q) (hq:q<zd):vp q x H<zd:=by
 unfold vp;split
 ·exact yP
 ·exact Nat.lt_trans (vZ h0 _ _) hq
theorem di {n:Nat} (h:n<256):be 1 n=[n]:=by
 simp[be,List.range,List.range.loop];omega
theorem fD {ep d n:Nat} (hd:d<256) (hn:n<256):byC (be 8 ep)++[.int .u8 (d:Int),.int .u8 (n:Int)]=byC (abL ep d n):=by
 unfold abL;rw[di hd,di hn,zZ,zZ];simp[byC]
theorem adP {ep d n:Nat}:∀ b∈abL ep d n,b<256:=by
 intro b hb;unfold abL at hb
 rcases List.mem_append.1 hb with hb|hb
 ·rcases List.mem_append.1 hb with hb|hb<;>exact tn b hb
 ·exact tn b hb
abbrev dlV (ep d:Nat) (v y pr:Value) (c s:Nat):Value:=.agg #[.int .u64 (ep:Int),.int .u8 (d:Int),v,y,pr,.int .u64 ((wd 0 c:Nat):Int),.int .u64 ((wd 1 c:Nat):Int),.int .u64 ((wd 2 c:Nat):Int),.int .u64 ((wd 3 c:Nat):Int),.int .u64 ((wd 0 s:Nat):Int),.int .u64 ((wd 1 s:Nat):Int),.int .u64 ((wd 2 s:Nat):Int),.int .u64 ((wd 3 s:Nat):Int)]
abbrev dlC (ep d:Nat) (v y pr:Value) (c s:Nat):List Value:=[.int .u64 (ep:Int),.int .u8 (d:Int),v,y,pr,.int .u64 ((wd 0 c:Nat):Int),.int .u64 ((wd 1 c:Nat):Int),.int .u64 ((wd 2 c:Nat):Int),.int .u64 ((wd 3 c:Nat):Int),.int .u64 ((wd 0 s:Nat):Int),.int .u64 ((wd 1 s:Nat):Int),.int .u64 ((wd 2 s:Nat):Int),.int .u64 ((wd 3 s:Nat):Int)]
end Sx
end
section
open Go Go.RowKit Go.BigFrame
namespace Sx
attribute [local irreducible] wd
def uF:ByteArray:=⟨#[115,104,97,114,101]⟩
def vt:ByteArray:=⟨#[100,101,97,108,105,110,103]⟩
def cg:ByteArray:=⟨#[115,105,103,110]⟩
def exN (p a n:Nat):Nat:=okV (yB p a) (a ^ n%p)
def shN (q:Nat) (l:List Nat) (i:Nat):Nat:=yH l (i+1)%q
def shL (q:Nat) (l:List Nat) (n:Nat):List Nat:=(List.range n).map (shN q l)
def ky (N:List (Nat × Nat)) (i:Nat):Nat:=(N.getD i (0,0)).2
def dV (p q g:Nat) (l:List Nat) (i:Nat):Nat:=exN p g (shN q l i)
def dY (p q:Nat) (l:List Nat) (N:List (Nat × Nat)) (i:Nat):Nat:=exN p (ky N i) (shN q l i)
def dH (ep d v y i:Nat):List Nat:=hOf (yj uF) [abL ep d (i+1),be 32 v,be 32 y]
def pfN (p q g x k draw:Nat):Nat × Nat:=(okV (prB p q x g k draw) (prC p q (yj uF) x g k draw),okV (prB p q x g k draw) ((draw+x*prC p q (yj uF) x g k draw%q)%q))
def dP (p q g:Nat) (l:List Nat) (N:List (Nat × Nat)) (ep d x i:Nat):Nat × Nat :=
 pfN p q g (shN q l i) (ky N i) (vp q x (dH ep d (dV p q g l i) (dY p q l N i) i))
def yX (ep d:Nat) (V Y:List Nat) (Pr:List (Nat × Nat)):List Nat:=hOf (yj vt) [be 8 ep++be 1 d,V.flatMap (be 32),Y.flatMap (be 32),Pr.flatMap fun k=>be 32 k.1++be 32 k.2]
def sgB (p q g x draw:Nat):Bool:=yB p g && zJ x x q && zJ draw draw q && decide (x≠0) && decide (draw≠0)
def sgC (p q g x draw:Nat) (H:List Nat):Nat:=mR q (yj cg) [be 32 (g ^ x%p),be 32 (g ^ draw%p),H]
def sgN (p q g x draw:Nat) (H:List Nat):Nat × Nat:=(okV (sgB p q g x draw) (sgC p q g x draw H),okV (sgB p q g x draw) ((draw+x*sgC p q g x draw H%q)%q))
def dVs (p q g:Nat) (l:List Nat) (n:Nat):List Nat:=(List.range n).map (dV p q g l)
def dYs (p q:Nat) (l:List Nat) (N:List (Nat × Nat)) (n:Nat):List Nat:=(List.range n).map (dY p q l N)
def dPs (p q g:Nat) (l:List Nat) (N:List (Nat × Nat)) (ep d x n:Nat):List (Nat × Nat):=(List.range n).map (dP p q g l N ep d x)
def dHs (p q g:Nat) (l:List Nat) (N:List (Nat × Nat)) (ep d x n:Nat):List Nat:=yX ep d (dVs p q g l n) (dYs p q l N n) (dPs p q g l N ep d x n)
def dSg (p q g:Nat) (l:List Nat) (N:List (Nat × Nat)) (ep d x n:Nat):Nat × Nat:=sgN p q g x (vp q x (dHs p q g l N ep d x n)) (dHs p q g l N ep d x n)
def sgK (N:List (Nat × Nat)) (d:Nat):Nat:=(N.getD (d - 1) (0,0)).1
def iU (p q g h:Nat) (f sec:Int) (N:List (Nat × Nat)) (d:Nat) (l:List Nat) (x:Nat):Bool :=
 uc p q g h f sec N && o7 d N && (decide ((l.length:Int)=f+sec) && sc q l) && ab4 p q g x (sgK N d)
theorem rG {α:Type} (f:Nat→α) {i:Nat}:(List.range (i+1)).map f=(List.range i).map f++[f i]:=by
 rw[List.range_succ,List.map_append];rfl
theorem sa {p a n:Nat} (hp:p<zd):exN p a n<zd:=by
 unfold exN;cases h:yB p a with
 | false=>exact zD
 | true=>exact Nat.lt_trans (ac0 h) hp
theorem adC {q i:Nat} {l:List Nat} (h:0<q):shN q l i<q:=Nat.mod_lt _ h
theorem je {b:Bool} {x:Nat} (h:x<zd):okV b x<zd:=by
 cases b with
 | false=>exact zD
 | true=>exact h
theorem ac4 {p q g x k draw:Nat} (h0:0<q) (hq:q<zd):(pfN p q g x k draw).1<zd∧(pfN p q g x k draw).2<zd :=
 ⟨je (Nat.lt_trans (vZ h0 _ _) hq),je (Nat.lt_trans (Nat.mod_lt _ h0) hq)⟩
theorem adv {p q g x draw:Nat} {H:List Nat} (h0:0<q) (hq:q<zd):(sgN p q g x draw H).1<zd∧(sgN p q g x draw H).2<zd :=
 ⟨je (Nat.lt_trans (vZ h0 _ _) hq),je (Nat.lt_trans (Nat.mod_lt _ h0) hq)⟩
theorem vK {p q g h:Nat} {f sec:Int} {N:List (Nat × Nat)} (hs:uc p q g h f sec N=true):1≤N.length∧N.length≤7∧N.length<q∧0≤f∧1≤sec∧f+sec≤5∧yB p g=true∧yB p h=true:=by
 have hm:=ap hs;unfold uc at hs;simp only[Bool.and_eq_true,decide_eq_true_eq] at hs;obtain⟨⟨⟨⟨⟨⟨⟨⟨⟨⟨h1,h2⟩,h3⟩,h4⟩,h5⟩,h6⟩,h7⟩,h8⟩,h9⟩,_⟩,_⟩:=hs;unfold kB at h9;rw[Bool.and_eq_true] at h9;exact⟨by omega,by omega,by omega,h1,h3,by omega,vm h9.1,hm⟩
theorem ad0 {N:List (Nat × Nat)} {i:Nat} {k:Nat × Nat} (h:N[i]?=some k):ky N i=k.2:=by
 simp[ky,List.getD,h]
theorem acT {d:Nat} {N:List (Nat × Nat)} {k:Nat × Nat} (h:N[d - 1]?=some k):sgK N d=k.1:=by
 simp[sgK,List.getD,h]
theorem acE {q n i:Nat} {l:List Nat} (h:i<n):(shL q l n)[i]?=some (shN q l i):=by
 simp[shL,h]
theorem qg {ep d:Nat} {V Y:List Nat} {Pr:List (Nat × Nat)}:∀ X∈[be 8 ep++be 1 d,V.flatMap (be 32),Y.flatMap (be 32),Pr.flatMap fun k=>be 32 k.1++be 32 k.2],∀ x∈X,x<256:=by
 intro X hX x hx;simp only[List.mem_cons,List.not_mem_nil,or_false] at hX
 rcases hX with rfl|rfl|rfl|rfl
 ·rcases List.mem_append.1 hx with h|h<;>exact tn _ h
 ·obtain⟨_,_,h⟩:=List.mem_flatMap.1 hx;exact tn _ h
 ·obtain⟨_,_,h⟩:=List.mem_flatMap.1 hx;exact tn _ h
 ·obtain⟨_,_,h⟩:=List.mem_flatMap.1 hx
  rcases List.mem_append.1 h with h|h<;>exact tn _ h
theorem uv (l:List Nat):(l.flatMap (be 32)).length=l.length*32:=by
 induction l with
 | nil=>rfl
 | cons a r ih=>rw[List.flatMap_cons,List.length_append,zk,ih,List.length_cons];omega
theorem u7 (l:List (Nat × Nat)):(l.flatMap fun k=>be 32 k.1++be 32 k.2).length=l.length*64:=by
 induction l with
 | nil=>rfl
 | cons a r ih=>rw[List.flatMap_cons,List.length_append,List.length_append,zk,zk,ih,List.length_cons];omega
theorem acR {p q g x key:Nat}:ab4 p q g x key=(zJ x x q && yB p g && decide (exN p g x=key)):=by
 unfold ab4 exN;cases yB p g with
 | false=>simp
 | true=>rfl
end Sx
end
section
open Go Go.RowKit Go.BigFrame
namespace Sx
attribute [local irreducible] DQ DQS WC WO WX wd
theorem eQ {α:Type} {f:α→List Value} {k:Nat} (hk:∀ x,(f x).length=k) {xs:List α} {r:List Value} {i:Nat} {x:α} (h:xs[i]?=some x):cut (xs.flatMap f++r) (i*k) k=f x:=by
 have hi:i<xs.length:=by
  rcases Nat.lt_or_ge i xs.length with h1|h1
  ·exact h1
  ·rw[List.getElem?_eq_none h1] at h;cases h
 have h1:=zX hk h;have hl:=zU hk xs;have h2:i*k+k≤xs.length*k:=by rw[← Nat.succ_mul];exact Nat.mul_le_mul_right _ hi
 unfold cut at *;rw[List.drop_append,List.take_append,List.length_drop];rw[h1,show k - ((xs.flatMap f).length - i*k)=0 by omega];simp
set_option maxHeartbeats 2000000
end Sx
end
end Go.Proofs.YteibfbjpkjkejaaGreatDoor
