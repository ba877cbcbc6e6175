/- Part 32 of the proof. -/
import Derived.Test.YtiaibpcaloigkaaGreatDoorD31
set_option linter.unusedSimpArgs false
set_option linter.unusedVariables false
set_option maxHeartbeats 8000000
namespace Go.Proofs.YtiaibpcaloigkaaGreatDoor
section
open Go Go.RowKit Go.BigFrame
namespace Sx
attribute [local irreducible] DQ WC WO WX wd
def rS (n:Nat) (N:LP):Bool:=decide (1≤n) && decide (n≤N.length)
theorem tU {n:Nat} {N:LP} (h:rS n N=true):1≤n∧n≤N.length:=by
 unfold rS at h;simp at h;exact h
section
variable (p q g h:Nat) (f sec:Int) (pt:Option Addr) (c:Nat) (N:LP)
theorem aaZ (n:Nat) (hn:n<256) (hNl:N.length≤1099511627776):Fn Tryz.prog 81 [stV p q g h f sec (.slice pt N.length c),.int .u8 (n:Int)] Tr (Is (.bool (rS n N))):=by
 have hcv:IntKind.i64.wrap (n:Int)=(n:Int):=i64_in Om Om;unfold rS
 by_cases h1:1≤n
 ·rw[decide_eq_true h1,Bool.true_and];have d1:decide ((1:Int)≤(n:Int))=true:=decide_eq_true Om;have d2:decide ((n:Int)≤(N.length:Int))=decide (n≤N.length):=by simp
  refine Fn.enter Tryz.func81 rfl rfl rfl ?_;intro w hw
  repeat (first|refine Tk ?_|intro _|exact Tz)
  rw[d1]
  repeat (first|refine Tj ?_|intro _|refine WO.does (zy rfl hcv) ?_|refine Tc ?_|exact Tz)
  rw[d2]
  repeat (first|refine Tk ?_|intro _|exact Tz)
 ·rw[decide_eq_false h1,Bool.false_and];have d1:decide ((1:Int)≤(n:Int))=false:=decide_eq_false Om;refine Fn.enter Tryz.func81 rfl rfl rfl ?_;intro w hw
  repeat (first|refine Tk ?_|intro _|exact Tz)
  rw[d1]
  repeat (first|refine Tk ?_|intro _|exact Tz)
end
def abL (ep d n:Nat):List Nat:=be 8 ep++be 1 d++be 1 n
theorem tV (ep d n:Nat):(abL ep d n).length=10:=by unfold abL;simp only[List.length_append,zk]
def abw (p q h x key:Nat):Bool:=zK x x q && yx p h && decide (h ^ x%p=key)
theorem uu (r:Nat):okV true r=r:=rfl
theorem aeh {p h x:Nat} (hm:yx p h=true):h ^ x%p<p:=Nat.mod_lt _ (by have:=(yW hm).1;omega)
def ma:ByteArray:=⟨#[100,114,97,119]⟩
def yr (q x:Nat) (H:LN):Nat:=if oM q (zN ma) [be 32 x,H]=0 then 1 else oM q (zN ma) [be 32 x,H]
theorem aJ {p q g h:Nat} {f sec:Int} {N:LP} (hs:yX p q g h f sec N=true):yx p h=true:=by
 unfold yX at hs;simp only[Bool.and_eq_true] at hs;have hk:=hs.1.2;unfold kB at hk;rw[Bool.and_eq_true] at hk;exact y6 hk.1
theorem jc {q x:Nat} {H:LN} (h0:0<q) (hq:q<ze):yr q x H<ze:=by
 unfold yr;split
 ·exact yT
 ·exact Nat.lt_trans (vA h0 _ _) hq
theorem em {n:Nat} (h:n<256):be 1 n=[n]:=by
 simp[be,List.range,List.range.loop];omega
theorem dA {ep d n:Nat} (hd:d<256) (hn:n<256):byC (be 8 ep)++[.int .u8 (d:Int),.int .u8 (n:Int)]=byC (abL ep d n):=by
 unfold abL;rw[em hd,em hn,zW,zW];simp[byC]
theorem ad8 {ep d n:Nat}:∀ b∈abL ep d n,b<256:=by
 intro b hb;unfold abL at hb
 rcases List.mem_append.1 hb with hb|hb
 ·rcases List.mem_append.1 hb with hb|hb<;>exact vk b hb
 ·exact vk b hb
abbrev dlV (ep d:Nat) (v y pr:Value) (c s:Nat):Value:=.agg #[.int .u64 (ep:Int),.int .u8 (d:Int),v,y,pr,.int .u64 ((wd 0 c:Nat):Int),.int .u64 ((wd 1 c:Nat):Int),.int .u64 ((wd 2 c:Nat):Int),.int .u64 ((wd 3 c:Nat):Int),.int .u64 ((wd 0 s:Nat):Int),.int .u64 ((wd 1 s:Nat):Int),.int .u64 ((wd 2 s:Nat):Int),.int .u64 ((wd 3 s:Nat):Int)]
abbrev dlC (ep d:Nat) (v y pr:Value) (c s:Nat):List Value:=[.int .u64 (ep:Int),.int .u8 (d:Int),v,y,pr,.int .u64 ((wd 0 c:Nat):Int),.int .u64 ((wd 1 c:Nat):Int),.int .u64 ((wd 2 c:Nat):Int),.int .u64 ((wd 3 c:Nat):Int),.int .u64 ((wd 0 s:Nat):Int),.int .u64 ((wd 1 s:Nat):Int),.int .u64 ((wd 2 s:Nat):Int),.int .u64 ((wd 3 s:Nat):Int)]
end Sx
end
section
open Go Go.RowKit Go.BigFrame
namespace Sx
attribute [local irreducible] wd
def uS:ByteArray:=⟨#[115,104,97,114,101]⟩
def tv:ByteArray:=⟨#[100,101,97,108,105,110,103]⟩
def ab:ByteArray:=⟨#[115,105,103,110]⟩
def exN (p a n:Nat):Nat:=okV (yx p a) (a ^ n%p)
def shN (q:Nat) (l:LN) (i:Nat):Nat:=ya l (i+1)%q
def shL (q:Nat) (l:LN) (n:Nat):List Nat:=(List.range n).map (shN q l)
def ky (N:LP) (i:Nat):Nat:=(N.getD i (0,0)).2
def dV (p q g:Nat) (l:LN) (i:Nat):Nat:=exN p g (shN q l i)
def dY (p q:Nat) (l:LN) (N:LP) (i:Nat):Nat:=exN p (ky N i) (shN q l i)
def dH (ep d v y i:Nat):List Nat:=hOf (zN uS) [abL ep d (i+1),be 32 v,be 32 y]
def pfN (p q g x k draw:Nat):Nat × Nat:=(okV (prB p q x g k draw) (prC p q (zN uS) x g k draw),okV (prB p q x g k draw) ((draw+x*prC p q (zN uS) x g k draw%q)%q))
def dP (p q g:Nat) (l:LN) (N:LP) (ep d x i:Nat):Nat × Nat :=
 pfN p q g (shN q l i) (ky N i) (yr q x (dH ep d (dV p q g l i) (dY p q l N i) i))
def vi (ep d:Nat) (V Y:LN) (Pr:LP):List Nat:=hOf (zN tv) [be 8 ep++be 1 d,V.flatMap (be 32),Y.flatMap (be 32),Pr.flatMap fun k=>be 32 k.1++be 32 k.2]
def sgB (p q g x draw:Nat):Bool:=yx p g && zK x x q && zK draw draw q && decide (x≠0) && decide (draw≠0)
def sgC (p q g x draw:Nat) (H:LN):Nat:=oM q (zN ab) [be 32 (g ^ x%p),be 32 (g ^ draw%p),H]
def sgN (p q g x draw:Nat) (H:LN):Nat × Nat:=(okV (sgB p q g x draw) (sgC p q g x draw H),okV (sgB p q g x draw) ((draw+x*sgC p q g x draw H%q)%q))
def dVs (p q g:Nat) (l:LN) (n:Nat):List Nat:=(List.range n).map (dV p q g l)
def dYs (p q:Nat) (l:LN) (N:LP) (n:Nat):List Nat:=(List.range n).map (dY p q l N)
def dPs (p q g:Nat) (l:LN) (N:LP) (ep d x n:Nat):List (Nat × Nat):=(List.range n).map (dP p q g l N ep d x)
def dHs (p q g:Nat) (l:LN) (N:LP) (ep d x n:Nat):List Nat:=vi ep d (dVs p q g l n) (dYs p q l N n) (dPs p q g l N ep d x n)
def dSg (p q g:Nat) (l:LN) (N:LP) (ep d x n:Nat):Nat × Nat:=sgN p q g x (yr q x (dHs p q g l N ep d x n)) (dHs p q g l N ep d x n)
def sgK (N:LP) (d:Nat):Nat:=(N.getD (d - 1) (0,0)).1
def it (p q g h:Nat) (f sec:Int) (N:LP) (d:Nat) (l:LN) (x:Nat):Bool :=
 yX p q g h f sec N && rS d N && (decide ((l.length:Int)=f+sec) && uf q l) && abw p q g x (sgK N d)
theorem yA {α:Type} (f:Nat→α) {i:Nat}:(List.range (i+1)).map f=(List.range i).map f++[f i]:=by
 rw[List.range_succ,List.map_append];rfl
theorem uA {p a n:Nat} (hp:p<ze):exN p a n<ze:=by
 unfold exN;cases h:yx p a with
 | false=>exact zC
 | true=>exact Nat.lt_trans (aeh h) hp
theorem ae8 {q i:Nat} {l:LN} (h:0<q):shN q l i<q:=Nat.mod_lt _ h
theorem kG {b:Bool} {x:Nat} (h:x<ze):okV b x<ze:=by
 cases b with
 | false=>exact zC
 | true=>exact h
theorem aey {p q g x k draw:Nat} (h0:0<q) (hq:q<ze):(pfN p q g x k draw).1<ze∧(pfN p q g x k draw).2<ze :=
 ⟨kG (Nat.lt_trans (vA h0 _ _) hq),kG (Nat.lt_trans (Nat.mod_lt _ h0) hq)⟩
theorem aeC {p q g x draw:Nat} {H:LN} (h0:0<q) (hq:q<ze):(sgN p q g x draw H).1<ze∧(sgN p q g x draw H).2<ze :=
 ⟨kG (Nat.lt_trans (vA h0 _ _) hq),kG (Nat.lt_trans (Nat.mod_lt _ h0) hq)⟩
theorem zX {p q g h:Nat} {f sec:Int} {N:LP} (hs:yX p q g h f sec N=true):1≤N.length∧N.length≤7∧N.length<q∧0≤f∧1≤sec∧f+sec≤5∧yx p g=true∧yx p h=true:=by
 have hm:=aJ hs;unfold yX at hs;simp only[Bool.and_eq_true,decide_eq_true_eq] at hs;obtain⟨⟨⟨⟨⟨⟨⟨⟨⟨⟨h1,h2⟩,h3⟩,h4⟩,h5⟩,h6⟩,h7⟩,h8⟩,h9⟩,_⟩,_⟩:=hs;unfold kB at h9;rw[Bool.and_eq_true] at h9;exact⟨by omega,by omega,by omega,h1,h3,by omega,y6 h9.1,hm⟩
theorem aew {N:LP} {i:Nat} {k:Nat × Nat} (h:N[i]?=some k):ky N i=k.2:=by
 simp[ky,List.getD,h]
theorem acG {d:Nat} {N:LP} {k:Nat × Nat} (h:N[d - 1]?=some k):sgK N d=k.1:=by
 simp[sgK,List.getD,h]
theorem acg {q n i:Nat} {l:LN} (h:i<n):(shL q l n)[i]?=some (shN q l i):=by
 simp[shL,h]
theorem mY {ep d:Nat} {V Y:LN} {Pr:LP}:∀ X∈[be 8 ep++be 1 d,V.flatMap (be 32),Y.flatMap (be 32),Pr.flatMap fun k=>be 32 k.1++be 32 k.2],∀ x∈X,x<256:=by
 intro X hX x hx;simp only[List.mem_cons,List.not_mem_nil,or_false] at hX
 rcases hX with rfl|rfl|rfl|rfl
 ·rcases List.mem_append.1 hx with h|h<;>exact vk _ h
 ·obtain⟨_,_,h⟩:=List.mem_flatMap.1 hx;exact vk _ h
 ·obtain⟨_,_,h⟩:=List.mem_flatMap.1 hx;exact vk _ h
 ·obtain⟨_,_,h⟩:=List.mem_flatMap.1 hx
  rcases List.mem_append.1 h with h|h<;>exact vk _ h
theorem tP (l:LN):(l.flatMap (be 32)).length=l.length*32:=by
 induction l with
 | nil=>rfl
 | cons a r ih=>rw[List.flatMap_cons,List.length_append,zk,ih,List.length_cons];omega
theorem pX (l:LP):(l.flatMap fun k=>be 32 k.1++be 32 k.2).length=l.length*64:=by
 induction l with
 | nil=>rfl
 | cons a r ih=>rw[List.flatMap_cons,List.length_append,List.length_append,zk,zk,ih,List.length_cons];omega
theorem ads {p q g x key:Nat}:abw p q g x key=(zK x x q && yx p g && decide (exN p g x=key)):=by
 unfold abw exN;cases yx p g with
 | false=>simp
 | true=>rfl
end Sx
end
section
open Go Go.RowKit Go.BigFrame
namespace Sx
attribute [local irreducible] DQ WC WO WX wd
theorem aab (n:Nat) (hn:n<4611686018427387904):Fn Tryz.prog 231 [.int .i64 (n:Int)] Tr (Is (.int .i64 ((n+1:Nat):Int))):=by
 have ha:IntKind.i64.wrap ((n:Int)+1)=((n+1:Nat):Int):=zl Om Om Om;refine Fn.enter Tryz.func231 rfl rfl rfl ?_;intro w hw
 repeat (first|refine Tj ?_|intro _|refine WO.does (zj rfl rfl ha) ?_|refine Tc ?_|exact Tz)
abbrev bo:List Value:=[.int .i64 7,.func (.func 231) #[] #[]]
theorem acP:Fn Tryz.prog 188 [] Tr (Is (.agg bo.toArray)):=by
 refine Fn.enter Tryz.func188 rfl rfl rfl ?_;intro w hw
 repeat (first|refine Tk ?_|intro _|exact Tz)
section
variable (p q g h:Nat)
theorem ej (l:LN) (pz:Option Addr) (c i gS gG gP:Nat) (hl:∀ a∈l,a<ze) (hn:l.length≤1099511627776) (hq:q<ze) (hb1:uf q l=true) (hi:i+1<q) (hi2:i<1000) :
  Fn Tryz.prog 232 ([.int .i64 (i:Int)]++[pt gG,pt gP,pt gS]) (fun w=>Seg w gG 0 (yC p q g h)∧Seg w gP 0 [.slice pz l.length c]∧Seg w gS 0 bo∧RdF zc (.slice pz l.length c) l w) (Is (.tuple #[zi (shN q l i),.int .i64 0])):=by
 have h1:=aab i Om;have h2:=js p q g h (i+1) Om hq;rw[fD q (i+1) Om,Nat.mod_eq_of_lt hi] at h2;have h3:=oR p q g h l pz c (i+1) hl hn hq (Nat.lt_trans hi hq) hb1 hi;rw[show ya l (i+1)%q=shN q l i from rfl] at h3;generalize shN q l i=V at *;refine Fn.enter Tryz.func232 rfl rfl rfl ?_;intro w hw;obtain⟨wG,wP,wS,wL⟩:=hw
 repeat (first|refine Tk ?_|intro _|exact Tz)
 refine WC.adraw 11 (k:=?_)
 iterate 11 (first|refine Da ?_|refine DQ.does (fun s _=>zm (hs:=wG) (hle:=Nat.le_refl _) (vs:=yC p q g h)) Dp.const ?_|refine DQ.does (fun s _=>zn (hs:=wP) (hle:=Nat.le_refl _)) Dp.const ?_|refine DQ.does (fun s _=>zn (hs:=wS) (hle:=Nat.zero_le _)) Dp.const ?_|refine DQ.acallV (hc:=h1) (k:=?_)|refine DQ.acall (hc:=h2) (k:=?_)|refine DQ.acallM (hc:=h3) (hR:=fun w hm=>wL.mod hm.mod) (k:=?_)|refine Dc ?_)
 refine DQ.anil (k:=?_);intro sx _
 repeat (first|refine Tk ?_|intro _|exact Tz)
 done
end
theorem aaE {f:Nat} [Cal Tryz.prog f] (caps:LV) (V:Nat→Nat) (m:Nat) (R:World→Prop) (hst:zU R) (hm:m≤100)
  (hf:∀ i,i<m→Fn Tryz.prog f ([.int .i64 (i:Int)]++caps) R (Is (.tuple #[zi (V i),.int .i64 0]))) :
  Fn Tryz.prog 208 [.int .i64 (m:Int),.func (.func f) #[] caps.toArray] R
   (Ex (fun s=>.tuple #[AQ (s 0) m m,.int .i64 0]) (fun s=>[⟨s 0,24,((List.range m).map V).flatMap zc⟩]) (fun _=>True)):=by
 refine Fn.enter Tryz.func208 rfl rfl rfl ?_;intro w hw
 repeat (first|refine Tj ?_|intro _|(refine WO.makes (yf (l:=0) (c:=m) rfl rfl Om Om Om) ?_;intro g)|refine Tc ?_|exact Tz)
 refine WC.loopI (σ:=Nat) (fun i=>i≤m) (fun i=>[(1,.func (.func f) #[] caps.toArray),(5,.int .i64 0),(6,AQ g i m),(12,.int .i64 (m:Int)),(13,.int .i64 (i:Int))]) (fun i=>[⟨g,24,((List.range i).map V).flatMap zc++mkz (m - i) (zc 0)⟩]) (fun i=>m - i) 0 (fun i hi=>?_) (Nat.zero_le _)
 try dsimp only at hi ⊢
 by_cases hlt:i<m
 ·have hadd2:IntKind.i64.wrap ((i:Int)+1)=((i+1:Nat):Int):=zl Om Om Om;have hcall:=hf i hlt;have hx:((List.range m).map V)[i]?=some (V i):=by simp[hlt]
  have htk:∀ j,j≤m→((List.range m).map V).take j=(List.range j).map V:=fun j hj=>by rw[← List.map_take,List.take_range,Nat.min_eq_left hj]
  have hov:=nu (f:=zc) (z:=zc 0) (m:=m - i) zR rfl hx Om;rw[htk i Om,htk (i+1) Om,show m - i - 1=m - (i+1) by omega] at hov;have hle:i*(zc 0).length+(zc (V i)).length≤(((List.range i).map V).flatMap zc++mkz (m - i) (zc 0)).length:=by
   rw[List.length_append,zG zR,zT,List.length_map,List.length_range];show i*4+4≤i*4+(m - i)*4;have:1*4≤(m - i)*4:=Nat.mul_le_mul_right _ Om;omega
  repeat (first|refine Tk ?_|intro _|exact Tz)
  refine WC.dT rfl Om ?_
  repeat (first|refine Tj ?_|intro _|refine WO.acallV (hc:=hcall) (hR:=fun w' hm=>hst _ _ hw hm.mod.below) (k:=?_)|refine Tc ?_|exact Tz)
  repeat (first|refine Tj ?_|intro _|(refine WO.makes (zh (t:=46) (cs:=zc (V i)) rfl Dt rfl) ?_;intro g2)|refine WO.both (sH (s:=undef) (z:=zc 0) rfl rfl (Rds.own (m:=4) Hs.here rfl) rfl Om rfl (by repeat (first|exact Rp.here|apply Rp.there)) hov hle rfl Dt) ?_|refine WO.does (zj rfl rfl hadd2) ?_|refine Tc ?_|exact Tz)
  exact WX.metI (i+1) (hs:=⟨by show i+1≤m;omega,by show m - (i+1)<m - i;omega⟩)
 ·have hi2:i=m:=by omega
  subst hi2;rw[Nat.sub_self,show mkz 0 (zc 0)=[] from rfl,List.append_nil]
  repeat (first|refine Tk ?_|intro _|exact Tz)
  refine WC.dF rfl Om ?_
  repeat (first|refine Tk ?_|intro _|exact Tz)
  exact WX.ret2 rfl Rv.t Rv.t [⟨g,24,((List.range i).map V).flatMap zc⟩] (Lle.c Lle.nil) ⟨fun _=>g,rfl,rfl,trivial⟩
section
variable (p q g h:Nat) (l:LN) (pz:Option Addr) (c m:Nat)
theorem ax (hl:∀ a∈l,a<ze) (hn:l.length≤1099511627776) (hq:q<ze) (hb1:uf q l=true) (h1:1≤m) (hm:m≤7) (hmq:m<q) :
  Fn Tryz.prog 189 [.agg bo.toArray,vI p q g h,.slice pz l.length c,.int .i64 (m:Int)] (RdF zc (.slice pz l.length c) l)
   (Ex (fun s=>.tuple #[AQ (s 0) m m,.int .i64 0]) (fun s=>[⟨s 0,24,(shL q l m).flatMap zc⟩]) (fun _=>True)):=by
 have hC:=fun gS gG gP=>aaE (f:=232) [pt gG,pt gP,pt gS] (shN q l) m (fun w=>Seg w gG 0 (yC p q g h)∧Seg w gP 0 [.slice pz l.length c]∧Seg w gS 0 bo∧RdF zc (.slice pz l.length c) l w)
  (fun w w' ⟨a,b,d,e⟩ hb=>⟨zU.seg w w' a hb,zU.seg w w' b hb,zU.seg w w' d hb,e.mod (.of_below hb _)⟩) Om (fun i hi=>ej p q g h l pz c i gS gG gP hl hn hq hb1 Om Om)
 refine Fn.enter Tryz.func189 rfl rfl rfl ?_;intro w hw
 repeat (first|refine Tj ?_|intro _|refine WO.does (z7 rfl rfl Om) ?_|refine WO.does (zH rfl rfl) ?_|refine WO.does (yK rfl rfl Om) ?_|refine Tc ?_|exact Tz)
 repeat (first|refine Tj ?_|intro _|refine WO.does (zH rfl rfl) ?_|refine WO.acallX (hc:=hC _ _ _) (hR:=fun w1 hm=>⟨Hs.sg hm,Hs.sg hm,Hs.sg hm,hw.mod hm.mod⟩) (k:=fun s _=>?_)|refine Tc ?_|exact Tz)
 generalize s 0=g0
 repeat (first|refine Tk ?_|intro _|exact Tz)
 exact WX.ret2 rfl Rv.t Rv.t [⟨g0,24,(shL q l m).flatMap zc⟩] (Lle.c Lle.nil) ⟨fun _=>g0,rfl,rfl,trivial⟩
theorem aaN (hl:∀ a∈l,a<ze) (hn:l.length≤1099511627776) (hq:q<ze) (hb1:uf q l=true) (h1:1≤m) (hm:m≤7) (hmq:m<q) :
  Fn Tryz.prog 144 [vI p q g h,.slice pz l.length c,.int .i64 (m:Int)] (RdF zc (.slice pz l.length c) l)
   (Ex (fun s=>.tuple #[AQ (s 0) m m,.int .i64 0]) (fun s=>[⟨s 0,24,(shL q l m).flatMap zc⟩]) (fun _=>True)):=by
 have hV:=ax p q g h l pz c m hl hn hq hb1 h1 hm hmq;have hN:=acP;refine Fn.enter Tryz.func144 rfl rfl rfl ?_;intro w hw
 repeat (first|refine Tk ?_|intro _|exact Tz)
 refine WC.adraw 9 (k:=?_);refine DQ.acall (hc:=hN) (k:=?_)
 iterate 3 (refine DQ.auto (k:=?_))
 refine DQ.callsE (fs:=fun _=>[]) (cs:=fun _=>[]) (R:=fun _=>RdF zc (.slice pz l.length c) l) (vf:=fun _ x=>.tuple #[AQ (x 0) m m,.int .i64 0]) (Nf:=fun _ x=>[⟨x 0,24,(shL q l m).flatMap zc⟩]) (S:=fun _ _=>True) (fun _=>[]) (fun _=>.nil)
  (fun _=>⟨fun _=>0,trivial⟩) (fun _ _=>hV) (fun _=>rfl) (fun _=>rfl) (fun _=>by simp) (fun _ _ w hm=>hw.mod hm.mod) Dp.const Dp.const Dp.const ?_
 try dsimp only[List.map_cons,List.map_nil,List.cons_append,List.nil_append]
 iterate 4 (refine DQ.auto (k:=?_))
 refine DQ.anil (k:=?_);intro sx _;generalize sx 4 0=g0
 repeat (first|refine Tk ?_|intro _|exact Tz)
 exact WX.ret2 rfl Rv.t Rv.t [⟨g0,24,(shL q l m).flatMap zc⟩] (Lle.c Lle.nil) ⟨fun _=>g0,rfl,rfl,trivial⟩
end
section
variable (p q g h:Nat) (f sec:Int) (ns:Value)
theorem aaY (l:LN) (pz:Option Addr) (c:Nat) (hl:∀ a∈l,a<ze) (hn:l.length≤1099511627776) (hq:q<ze) (hf:0≤f∧0≤sec∧f+sec≤5) :
  Fn Tryz.prog 142 [stV p q g h f sec ns,.slice pz l.length c] (RdF zc (.slice pz l.length c) l) (Is (.bool (decide ((l.length:Int)=f+sec) && uf q l))):=by
 have hadd:IntKind.i64.wrap (f+sec)=f+sec:=i64_in Om Om;cases hb:uf q l with
 | true =>
  have hA:=oR p q g h l pz c 0 hl hn hq (tX Dt) hb (by have:=(vH hb).1;omega);generalize ya l 0%q=V at *;rw[Bool.and_true];refine Fn.enter Tryz.func142 rfl rfl rfl ?_;intro w hw
  repeat (first|refine Tj ?_|intro _|refine WO.acallR (hc:=hA) (hR:=fun w1 hm=>hw.mod hm.mod) (k:=?_)|refine WO.does (zj rfl rfl hadd) ?_|refine Tc ?_|exact Tz)
  by_cases he:(l.length:Int)=f+sec
  ·have d:decide ((l.length:Int)=f+sec)=true:=decide_eq_true he;rw[d]
   repeat (first|refine Tk ?_|intro _|exact Tz)
  ·have d:decide ((l.length:Int)=f+sec)=false:=decide_eq_false he;rw[d]
   repeat (first|refine Tk ?_|intro _|exact Tz)
 | false =>
  have hA:=aaS p q g h l pz c 0 hl hn hq (tX Dt) (by rw[hb,Bool.false_and]);rw[Bool.and_false];refine Fn.enter Tryz.func142 rfl rfl rfl ?_;intro w hw
  repeat (first|refine Tj ?_|intro _|refine WO.acallR (hc:=hA) (hR:=fun w1 hm=>hw.mod hm.mod) (k:=?_)|refine WO.does (zj rfl rfl hadd) ?_|refine Tc ?_|exact Tz)
  by_cases he:(l.length:Int)=f+sec
  ·have d:decide ((l.length:Int)=f+sec)=true:=decide_eq_true he;rw[d]
   repeat (first|refine Tk ?_|intro _|exact Tz)
  ·have d:decide ((l.length:Int)=f+sec)=false:=decide_eq_false he;rw[d]
   repeat (first|refine Tk ?_|intro _|exact Tz)
end
section
open Kp
variable {P:Program} {w0:World} {gs:LN} {n:Nat} {fl:LN} {Q:Exit→Act→World→Prop} {ops:List Oper} {L0:List Ent}
variable {tail rest:List Oper} {i:Nat} {C:zQ→Prop} {K:zQ→List (Nat × Value)} {N:zQ→List (Nat × Ent)}
variable {d:Nat} {op:Op} {ty:TypeId} {pos:String} {after:Array Edge} {gd:Option (Nat × Bool)}
theorem DQ.acallS {f:FuncId} [Cal P f] {xs:Array Operand} {ats:Array TypeId} {vs:LV} {Rq:World→Prop} {t m:Nat} {cs:LV} (hc:Fn P f vs Rq (cg t m cs)) (hR:∀ w,Rq w) (ha:∀ s,evs (K s) xs.toList=some vs:=by (intro s;rfl))
  (k:DQ P w0 gs n fl Q ops L0 tail (i+1) rest (fun s=>C s∧True) (fun s=>(d,AQ (s i 0) m m)::K s) (fun s=>(i,⟨s i 0,t,cs⟩)::N s))
  (hfl:fl.contains i=false:=by rfl) (hw:∀ s,wk ops (K s) gd=some true:=by intro _;rfl) (hd:Nat.blt d n=true:=by rfl) :
  DQ P w0 gs n fl Q ops L0 tail i (⟨some d,.call { callee:=.value (.func f),args:=xs,argTypes:=ats },ty,pos,after,gd⟩::rest) C K N :=
 DQ.callsE (fs:=fun _=>[]) (cs:=fun _=>[]) (R:=fun _=>Rq) (vf:=fun _ x=>AQ (x 0) m m) (Nf:=fun _ x=>[⟨x 0,t,cs⟩]) (S:=fun _ _=>True) (fun _=>[]) (fun _=>.nil)
  (fun _=>⟨fun _=>0,trivial⟩) (fun _ _=>Fn.weak hc (fun _ h=>h) (fun v N ⟨g,e1,e2⟩=>⟨fun _=>g,e1,e2,trivial⟩)) (fun _=>rfl) ha (fun _=>by simp) (fun _ _ w _=>hR w) Dp.const Dp.const Dp.const k hfl hw hd
end
section
variable (p q g h:Nat)
theorem aaR (x:Nat) (H:LN) (hx:x<ze) (hq:q<ze) (h0:0<q) (hH:∀ b∈H,b<256) (hl:H.length=32):Fn Tryz.prog 145 [vI p q g h,zi x,.agg (byC H).toArray] Tr (Is (zi (yr q x H))):=by
 have hP:=yL [] x 0 none Dt;rw[List.nil_append] at hP;have hbl:(be 32 x).length=32:=zk _ _;rw[hbl] at hP;have hN:=fun g3 g5 gR=>sL q ma [AQ g3 32 32,AQ g5 32 32] [be 32 x,H] gR 0 2 hq h0 (by
  intro X hX;simp only[List.mem_cons,List.not_mem_nil,or_false] at hX
  rcases hX with rfl|rfl
  ·exact vk
  ·exact hH) (by
  simp only[yz,uE,yG,List.flatMap_cons,List.flatMap_nil,List.length_append,zk,z6,List.length_nil,hl];decide) Dt
 have hlt:oM q (zN ma) [be 32 x,H] < ze:=Nat.lt_trans (Nat.mod_lt _ h0) hq;unfold yr;generalize oM q (zN ma) [be 32 x,H]=R at *;have hbH:(byC H).length=32:=by rw[zd,hl]
 refine Fn.enter Tryz.func145 rfl rfl rfl ?_;intro w hw
 repeat (first|refine Tk ?_|intro _|exact Tz)
 rename_i g3 g4 g5 g6;refine WC.adrawF [9] 11 (k:=?_)
 iterate 3 (refine DQ.auto (k:=?_))
 refine DQ.acallS (hc:=hP) (hR:=fun _=>Rd.nil) (k:=?_);refine DQ.does (v:=fun _=>AQ g5 32 32) (fun s _=>yp rfl) Dp.const ?_;refine DQ.makes (vf:=fun _ g=>AQ g 2 2) (t:=126) (cs:=fun s=>[AQ (s 3 0) 32 32,AQ g5 32 32]) (fun s _=>zh rfl Dt rfl) Dp.const (by intro s s' h;dsimp only;rw[h]<;>decide +kernel) ?_;refine DQ.callE (v:=fun _=>.tuple #[zi R,.int .i64 0]) (fun s=>[⟨s 5 0,126,[AQ (s 3 0) 32 32,AQ g5 32 32]⟩,⟨s 3 0,5,byC (be 32 x)⟩]) (fun s=>.cons 5 (.head _) Dkk (.cons 3 Mh.a Dkk .nil)) (fun s _=>hN (s 3 0) g5 (s 5 0)) (fun s=>rfl) (fun s hC w hm=>⟨Hs.seg Hs.here hm,zV.cons (by have:=RdP.own0 (g:=s 3 0) (c:=32) (X:=be 32 x) (t:=5) hm (Hs.there Hs.here) Om Dt;rw[hbl] at this;exact this) (zV.cons (by have:=RdP.own0 (g:=g5) (c:=32) (X:=H) (t:=70) hm Hs.a Om Dt;rw[hl] at this;exact this) zV.nil)⟩) Dp.const ?_
 repeat (first|refine Da ?_|refine Df ?_)
 refine DQ.anil (k:=?_);intro sx _
 repeat (first|refine Tj ?_|intro _|refine WO.does yF ?_|refine Tc ?_|exact Tz)
 by_cases hR:R=0
 ·have d:decide (R=0)=true:=decide_eq_true hR;rw[if_pos hR,d]
  repeat (first|refine Tj ?_|intro _|refine WO.does (zt (cs:=zc 1) rfl rfl Kr) ?_|refine Tc ?_|exact Tz)
 ·have d:decide (R=0)=false:=decide_eq_false hR;rw[if_neg hR,d]
  repeat (first|refine Tk ?_|intro _|exact Tz)
end
theorem RdF.get {α:Type} {f:α→List Value} {pz:Option Addr} {n c:Nat} {xs:List α} {w:World} (h:RdF f (.slice pz n c) xs w) {i:Nat} {x:α} (hx:xs[i]?=some x):∃ b o,pz=some ⟨b,o,none⟩∧n=xs.length∧Seg w b o (xs.flatMap f):=by
 obtain⟨p,c',e,h⟩:=h;cases e
 rcases h with ⟨_,rfl⟩|⟨b,o,rfl,hs⟩
 ·simp at hx
 ·exact⟨b,o,rfl,rfl,hs⟩
section
variable (p q g h:Nat) (f sec:Int) (ns:Value)
theorem bR (x key:Nat) (hx:x<ze) (hk:key<ze) (hp:p<ze) (hq:q<ze) (hg:g<ze) :
  Fn Tryz.prog 143 [stV p q g h f sec ns,zi x,zi key] Tr (Is (.bool (abw p q g x key))):=by
 have hE:=vF p q g h g x hg hx hp;simp only[rE] at hE;have hEl:okV (yx p g) (g ^ x%p)<ze:=uA (n:=x) (a:=g) hp;have hS:abw p q g x key=(uf q [x] && yx p g && decide (okV (yx p g) (g ^ x%p)=key)):=by
  rw[ads];congr 2;unfold zK uf;simp
 have d1:=adS (yx p g);generalize okV (yx p g) (g ^ x%p)=y at *;generalize okE (yx p g)=e at *;rw[hS,← d1];clear hS;cases hb:uf q [x] with
 | true =>
  have hA:=fun b=>oR p q g h [x] (some ⟨b,0,none⟩) 1 0 (by simpa using hx) (by show 1≤1099511627776;omega) hq (tX Dt) hb (by have:=(vH hb).1;omega);generalize ya [x] 0%q=V at *;rw[Bool.true_and];refine Fn.enter Tryz.func143 rfl rfl rfl ?_;intro w hw
  repeat (first|refine Tj ?_|intro _|(refine WO.makes (zh (cs:=zc x) rfl Dt rfl) ?_;intro _)|refine WO.acallR (hc:=hA _) (hR:=fun w hm=>RdF.seg (f:=zc) (xs:=[x]) (r:=[]) (Hs.sg hm)) (k:=?_)|refine WO.acall (hc:=hE) (k:=?_)|refine WO.does (yF (ha:=hEl) (hb:=hk)) ?_|refine Tc ?_|exact Tz)
  by_cases he:e=0
  ·have d:decide (e=0)=true:=decide_eq_true he;rw[d,Bool.true_and]
   repeat (first|refine Tj ?_|intro _|refine WO.does (yF (ha:=hEl) (hb:=hk)) ?_|refine Tc ?_|exact Tz)
  ·have d:decide (e=0)=false:=decide_eq_false he;rw[d,Bool.false_and]
   repeat (first|refine Tk ?_|intro _|exact Tz)
 | false =>
  have hA:=fun b=>aaS p q g h [x] (some ⟨b,0,none⟩) 1 0 (by simpa using hx) (by show 1≤1099511627776;omega) hq (tX Dt) (by rw[hb,Bool.false_and]);rw[Bool.false_and,Bool.false_and];refine Fn.enter Tryz.func143 rfl rfl rfl ?_;intro w hw
  repeat (first|refine Tj ?_|intro _|(refine WO.makes (zh (cs:=zc x) rfl Dt rfl) ?_;intro _)|refine WO.acallR (hc:=hA _) (hR:=fun w hm=>RdF.seg (f:=zc) (xs:=[x]) (r:=[]) (Hs.sg hm)) (k:=?_)|refine WO.acall (hc:=hE) (k:=?_)|refine Tc ?_|exact Tz)
  done
end
def lgV (g n:Nat):Nat→Value
 | 0=>.slice none 0 0
 | _+1=>AQ g n n
def lgL (g:Nat) (B:LN):Nat→List Ent
 | 0=>[]
 | _+1=>[⟨g,5,byC B⟩]
theorem iU (l:LN) (pz:Option Addr) (c:Nat) (hl:l≠[]) (hn:l.length≤8589934592) :
  Fn Tryz.prog 71 [.slice pz l.length c] (RdF zc (.slice pz l.length c) l) (cg 5 (l.flatMap (be 32)).length (byC (l.flatMap (be 32)))):=by
 refine Fn.enter Tryz.func71 rfl rfl rfl ?_;intro w hw
 repeat (first|refine Tk ?_|intro _|exact Tz)
 refine WC.loopI (σ:=Nat × Nat) (fun s=>s.1≤l.length) (fun s=>[(2,lgV s.2 ((l.take s.1).flatMap (be 32)).length s.1),(5,.slice pz l.length c),(6,.int .i64 (l.length:Int)),(7,.int .i64 (s.1:Int))])
  (fun s=>lgL s.2 ((l.take s.1).flatMap (be 32)) s.1) (fun s=>l.length - s.1) (0,0) (fun s hi=>?_) (Nat.zero_le _)
 obtain⟨i,g⟩:=s
 try dsimp only at hi ⊢
 by_cases hlt:i<l.length
 ·obtain⟨x,hx⟩ : ∃ x,l[i]?=some x:=⟨_,List.getElem?_eq_getElem hlt⟩;obtain⟨b,o,rfl,_,hs⟩:=hw.get hx;have hadd2:IntKind.i64.wrap ((i:Int)+1)=((i+1:Nat):Int):=zl Om Om Om;have hcx:cut (l.flatMap zc) (o+i*4 - o) 4=zc x:=by rw[Nat.add_sub_cancel_left];exact zI zR hx
  have hst:(l.take i).flatMap (be 32)++be 32 x=(l.take (i+1)).flatMap (be 32):=by rw[List.take_add_one,hx];simp
  have hBl:((l.take i).flatMap (be 32)).length≤549755813888:=by rw[tP,List.length_take];omega
  generalize hB2:(l.take (i+1)).flatMap (be 32)=B2 at *
  rcases i with _|i
  ·have hP:=yL [] x 0 none Dt;rw[show []++be 32 x=B2 by rw[← hst];rfl] at hP
   repeat (first|refine Tk ?_|intro _|exact Tz)
   refine WC.dT rfl Om ?_
   repeat (first|refine Tj ?_|intro _|refine WO.does (zb (o':=o+0*4) rfl rfl hlt rfl) ?_|refine WO.does (zm (vs:=zc x) (hs:=hs) (hle:=Nat.le_add_right _ _) (hc:=hcx)) ?_|refine WO.acallN (hc:=hP) (hR:=fun _ _=>Rd.nil) (k:=fun g'=>?_)|refine Tc ?_|exact Tz)
   repeat (first|refine Tj ?_|intro _|refine WO.does (zj rfl rfl hadd2) ?_|refine Tc ?_|exact Tz)
   subst hB2;exact WX.metI (1,g') (hs:=⟨by show 0+1≤l.length;omega,by show l.length - (0+1)<l.length - 0;omega⟩)
  ·have hP:=yL ((l.take (i+1)).flatMap (be 32)) x ((l.take (i+1)).flatMap (be 32)).length (some ⟨g,0,none⟩) hBl;rw[hst] at hP;generalize (l.take (i+1)).flatMap (be 32)=B1 at *
   try dsimp only[lgV,lgL]
   repeat (first|refine Tk ?_|intro _|exact Tz)
   refine WC.dT rfl Om ?_
   repeat (first|refine Tj ?_|intro _|refine WO.does (zb (o':=o+(i+1)*4) rfl rfl hlt rfl) ?_|refine WO.does (zm (vs:=zc x) (hs:=hs) (hle:=Nat.le_add_right _ _) (hc:=hcx)) ?_|refine WO.acallN (hc:=hP) (hR:=fun w1 hm=>Rd.of (Hs.sg hm)) (k:=fun g'=>?_)|refine Tc ?_|exact Tz)
   repeat (first|refine Tj ?_|intro _|refine WO.does (zj rfl rfl hadd2) ?_|refine Tc ?_|exact Tz)
   subst hB2;exact WX.metI (i+1+1,g') (hs:=⟨by show i+1+1≤l.length;omega,by show l.length - (i+1+1)<l.length - (i+1);omega⟩)
 ·have hi2:i=l.length:=by omega
  subst hi2;rw[List.take_length];cases l with
  | nil=>exact absurd rfl hl
  | cons a r =>
   try dsimp only[lgV,lgL,List.length_cons]
   repeat (first|refine Tk ?_|intro _|exact Tz)
   refine WC.dF rfl Om ?_
   repeat (first|refine Tk ?_|intro _|exact Tz)
   exact WX.retN
section
variable {w0:World} {gs:LN} {K:List (Nat × Value)} {L:List Ent}
theorem zw {x y:Operand} {yt ty:TypeId} {a b:Nat} {r:Bool} (hx:ev K x=some (zi a)) (hy:ev K y=some (zi b)) (ha:a<ze) (hb:b<ze) (hr:decide (a=b)=r) :
  Does Tryz.prog w0 gs K L (.binOp .eql 24 x y yt) ty (.bool r):=by
 subst hr;exact yF (hx:=hx) (hy:=hy) (ha:=ha) (hb:=hb)
end
section
variable (p q g h:Nat)
theorem dk (l:LN) (pz:Option Addr) (c:Nat) (hl:∀ a∈l,a<ze) (hn:l.length≤1099511627776) (hq:q<ze) :
  Fn Tryz.prog 159 [vI p q g h,.slice pz l.length c] (RdF zc (.slice pz l.length c) l) (Is (.bool (l.all fun x=>zK x x q))):=by
 refine Fn.enter Tryz.func159 rfl rfl rfl ?_;intro w hw
 repeat (first|refine Tk ?_|intro _|exact Tz)
 rename_i gG;refine WC.loopI (σ:=Nat) (fun i=>i≤l.length∧∀ j,j<i→∀ x,l[j]?=some x→zK x x q=true) (fun i=>[(2,pt gG),(9,.slice pz l.length c),(10,.int .i64 (l.length:Int)),(11,.int .i64 (i:Int))]) (fun _=>[⟨gG,26,yC p q g h⟩]) (fun i=>l.length - i) 0 (fun i hi=>?_) ⟨Nat.zero_le _,fun j hj=>by omega⟩
 try dsimp only at hi ⊢
 obtain⟨hi,h0⟩:=hi
 by_cases hlt:i<l.length
 ·obtain⟨x,hx⟩ : ∃ x,l[i]?=some x:=⟨_,List.getElem?_eq_getElem hlt⟩;obtain⟨b,o,rfl,_,hs⟩:=hw.get hx;have hadd2:IntKind.i64.wrap ((i:Int)+1)=((i+1:Nat):Int):=zl Om Om Om;have hcx:cut (l.flatMap zc) (o+i*4 - o) 4=zc x:=by rw[Nat.add_sub_cancel_left];exact zI zR hx
  have hxb:=hl x (List.mem_of_getElem? hx);have hA:=mf p q g h x x hxb hxb hq;cases hm:zK x x q with
  | true =>
   rw[hm] at hA
   repeat (first|refine Tk ?_|intro _|exact Tz)
   refine WC.dT rfl Om ?_
   repeat (first|refine Tj ?_|intro _|refine WO.does (zb (o':=o+i*4) rfl rfl hlt rfl) ?_|refine WO.does (zm (vs:=zc x) (hs:=hs) (hle:=Nat.le_add_right _ _) (hc:=hcx)) ?_|refine WO.acall (hc:=hA) (k:=?_)|refine WO.does (zA rfl rfl rfl) ?_|refine WO.does (zj rfl rfl hadd2) ?_|refine Tc ?_|exact Tz)
   refine WX.metI (i+1) (hs:=⟨⟨by show i+1≤l.length;omega,fun j hj y hy=>by
    rcases Nat.lt_or_ge j i with h|h
    ·exact h0 j h y hy
    ·have:j=i:=by omega
     subst this;rw[hx] at hy;cases hy;exact hm⟩,by show l.length - (i+1)<l.length - i;omega⟩)
  | false =>
   rw[hm] at hA;rw[fc hx hm]
   repeat (first|refine Tk ?_|intro _|exact Tz)
   refine WC.dT rfl Om ?_
   repeat (first|refine Tj ?_|intro _|refine WO.does (zb (o':=o+i*4) rfl rfl hlt rfl) ?_|refine WO.does (zm (vs:=zc x) (hs:=hs) (hle:=Nat.le_add_right _ _) (hc:=hcx)) ?_|refine WO.acall (hc:=hA) (k:=?_)|refine WO.does (yJ rfl rfl Dt) ?_|refine Tc ?_|exact Tz)
   done
 ·have hi2:i=l.length:=by omega
  rw[aF (P:=fun x=>zK x x q) (by rw[← hi2];exact h0)]
  repeat (first|refine Tk ?_|intro _|exact Tz)
  refine WC.dF rfl Om ?_
  repeat (first|refine Tk ?_|intro _|exact Tz)
  done
def fu (q key r:Nat) (H:LN):Nat:=oM q (zN ab) [be 32 key,be 32 r,H]
theorem kR (key r gG gK gH:Nat) (H:LN) (hq:q<ze) (h0:0<q) (hH:∀ b∈H,b<256) (hl:H.length=32) :
  Fn Tryz.prog 203 ([zi r]++[pt gG,pt gK,pt gH]) (fun w=>Seg w gG 0 (yC p q g h)∧Seg w gK 0 (zc key)∧Seg w gH 0 (byC H)) (Is (zi (fu q key r H))):=by
 have hP:=fun x=>yL [] x 0 none Dt;have hbl:∀ x,(be 32 x).length=32:=fun x=>zk _ _;simp only[List.nil_append,hbl] at hP;have hP1:=hP key;have hP2:=hP r;clear hP;have hN:=fun g3 g5 gR=>sL q ab [AQ g3 32 32,AQ g5 32 32,AQ gH 32 32] [be 32 key,be 32 r,H] gR 0 3 hq h0 (by
  intro X hX;simp only[List.mem_cons,List.not_mem_nil,or_false] at hX
  rcases hX with rfl|rfl|rfl
  ·exact vk
  ·exact vk
  ·exact hH) (by
  simp only[yz,uE,yG,List.flatMap_cons,List.flatMap_nil,List.length_append,zk,z6,List.length_nil,hl];decide) Dt
 rw[show oM q (zN ab) [be 32 key,be 32 r,H]=fu q key r H from rfl] at hN;generalize fu q key r H=R at *;have hbH:(byC H).length=32:=by rw[zd,hl]
 have hrk:=hbl key;have hrr:=hbl r;clear hbl;refine Fn.enter Tryz.func203 rfl rfl rfl ?_;intro w hw;obtain⟨wG,wK,wH⟩:=hw
 repeat (first|refine Tk ?_|intro _|exact Tz)
 refine WC.adrawF [11] 13 (k:=?_);refine DQ.auto (k:=?_);refine DQ.does (fun s _=>zm (hs:=wG) (hle:=Nat.zero_le _) (vs:=zc q)) Dp.const ?_;refine DQ.does (fun s _=>zm (hs:=wK) (hle:=Nat.le_refl _) (vs:=zc key)) Dp.const ?_;refine DQ.acallS (hc:=hP1) (hR:=fun _=>Rd.nil) (k:=?_);refine DQ.auto (k:=?_);refine DQ.acallS (hc:=hP2) (hR:=fun _=>Rd.nil) (k:=?_);refine DQ.does (v:=fun _=>AQ gH 32 32) (fun s _=>yp rfl) Dp.const ?_;refine DQ.makes (vf:=fun _ g=>AQ g 3 3) (t:=126) (cs:=fun s=>[AQ (s 3 0) 32 32,AQ (s 5 0) 32 32,AQ gH 32 32]) (fun s _=>zh rfl Dt rfl) Dp.const (by intro s s' h;dsimp only;rw[h,h]<;>decide +kernel) ?_
 refine DQ.callE (v:=fun _=>.tuple #[zi R,.int .i64 0]) (fun s=>[⟨s 7 0,126,[AQ (s 3 0) 32 32,AQ (s 5 0) 32 32,AQ gH 32 32]⟩,⟨s 5 0,5,byC (be 32 r)⟩,⟨s 3 0,5,byC (be 32 key)⟩])
  (fun s=>.cons 7 (.head _) Dkk (.cons 5 Mh.a Dkk (.cons 3 Mh.a Dkk .nil))) (fun s _=>hN (s 3 0) (s 5 0) (s 7 0)) (fun s=>rfl)
  (fun s hC w hm=>⟨Hs.seg Hs.here hm,zV.cons (by have:=RdP.own0 (g:=s 3 0) (c:=32) (X:=be 32 key) (t:=5) hm (Hs.there (Hs.there Hs.here)) Om Dt;rw[hrk] at this;exact this) (zV.cons (by have:=RdP.own0 (g:=s 5 0) (c:=32) (X:=be 32 r) (t:=5) hm (Hs.there Hs.here) Om Dt;rw[hrr] at this;exact this)
   (zV.cons ⟨some ⟨gH,0,none⟩,32,by rw[hl],by omega,by decide,.inr ⟨gH,0,rfl,by
    have h1:(byC H)[0]?=some (.int .u8 ((H[0]' Om:Nat):Int)):=lY Om;exact pM ((wH.mod hm.mod Sm) 0 _ h1),wH.mod hm.mod Sm⟩⟩ zV.nil))⟩) Dp.const ?_
 repeat (first|refine Da ?_|refine Df ?_)
 refine DQ.anil (k:=?_);intro sx _
 repeat (first|refine Tk ?_|intro _|exact Tz)
 done
end
section
variable (p q g h:Nat)
theorem f9 (key:Nat) (H:LN) (hl:H.length=32) :
  Fn Tryz.prog 160 [vI p q g h,zi key,.agg (byC H).toArray] Tr
   (Ex (fun x=>.func (.func 203) #[] #[pt (x 0),pt (x 1),pt (x 2)]) (fun x=>[⟨x 2,70,byC H⟩,⟨x 1,24,zc key⟩,⟨x 0,26,yC p q g h⟩]) (fun _=>True)):=by
 have hbH:(byC H).length=32:=by rw[zd,hl]
 refine Fn.enter Tryz.func160 rfl rfl rfl ?_;intro w hw
 repeat (first|refine Tj ?_|intro _|refine WO.does (zH rfl rfl) ?_|refine Tc ?_|exact Tz)
 rename_i g3 g4 g5;exact WX.ret1 rfl Rv.t [⟨g5,70,byC H⟩,⟨g4,24,zc key⟩,⟨g3,26,yC p q g h⟩] (by repeat (first|exact Lle.nil|refine Lle.c ?_)) ⟨fun i=>if i=0 then g3 else if i=1 then g4 else g5,rfl,rfl,trivial⟩
theorem adv (x d c S:Nat) (H:LN) (hp:p<ze) (hq:q<ze) (hg:g<ze) (hx:x<ze) (hd:d<ze) (hl:H.length=32) (hB:sgB p q g x d=false) :
  Fn Tryz.prog 146 [vI p q g h,zi x,.agg (byC H).toArray,zi d] Tr (Is (prV false c S)):=by
 have hE:=vF p q g h g x hg hx hp;have hX:=fun b=>dk p q g h [x,d] (some ⟨b,0,none⟩) 2 (by intro a ha;simp only[List.mem_cons,List.not_mem_nil,or_false] at ha;rcases ha with rfl|rfl<;>assumption) (by show 2≤1099511627776;omega) hq;have hbH:(byC H).length=32:=by rw[zd,hl]
 unfold sgB at hB;cases e1:yx p g with
 | false =>
  rw[e1] at hE;refine Fn.enter Tryz.func146 rfl rfl rfl ?_;intro w hw
  repeat (first|refine Tj ?_|intro _|refine WO.acall (hc:=hE) (k:=?_)|refine WO.does (yJ rfl rfl Dt) ?_|refine Tc ?_|exact Tz)
  done
 | true =>
 rw[e1] at hE hB;generalize g ^ x%p=y at *;cases e2:decide (x=0) with
 | true =>
  refine Fn.enter Tryz.func146 rfl rfl rfl ?_;intro w hw
  repeat (first|refine Tj ?_|intro _|refine WO.acall (hc:=hE) (k:=?_)|refine WO.does (zA rfl rfl rfl) ?_|refine WO.does (zw rfl rfl hx zC e2) ?_|refine Tc ?_|exact Tz)
  done
 | false =>
 cases e3:decide (d=0) with
 | true =>
  refine Fn.enter Tryz.func146 rfl rfl rfl ?_;intro w hw
  repeat (first|refine Tj ?_|intro _|refine WO.acall (hc:=hE) (k:=?_)|refine WO.does (zA rfl rfl rfl) ?_|refine WO.does (zw rfl rfl hx zC e2) ?_|refine WO.does (zw rfl rfl hd zC e3) ?_|refine Tc ?_|exact Tz)
  done
 | false =>
 have e4:([x,d].all fun x=>zK x x q)=false:=by
  simp at e2 e3;simpa [e2,e3] using hB
 rw[e4] at hX;refine Fn.enter Tryz.func146 rfl rfl rfl ?_;intro w hw
 repeat (first|refine Tj ?_|intro _|refine WO.acall (hc:=hE) (k:=?_)|refine WO.does (zA rfl rfl rfl) ?_|refine WO.does (zw rfl rfl hx zC e2) ?_|refine WO.does (zw rfl rfl hd zC e3) ?_|(refine WO.makes (zh (cs:=zc x++zc d) rfl Dt rfl) ?_;intro _)|refine WO.acallR (hc:=hX _) (hR:=fun w1 hm=>RdF.seg (f:=zc) (xs:=[x,d]) (r:=[]) (Hs.sg hm)) (k:=?_)|refine Tc ?_|exact Tz)
 done
theorem acd (x d c:Nat) (H:LN) (hp:p<ze) (hq:q<ze) (hg:g<ze) (hx:x<ze) (hd:d<ze) (hH:∀ b∈H,b<256) (hl:H.length=32) (hB:sgB p q g x d=true) (hc:sgC p q g x d H=c) :
  Fn Tryz.prog 146 [vI p q g h,zi x,.agg (byC H).toArray,zi d] Tr (Is (prV true c ((d+x*c%q)%q))):=by
 have hE1:=vF p q g h g x hg hx hp;have hE2:=vF p q g h g d hg hd hp;have hX:=fun b=>dk p q g h [x,d] (some ⟨b,0,none⟩) 2 (by intro a ha;simp only[List.mem_cons,List.not_mem_nil,or_false] at ha;rcases ha with rfl|rfl<;>assumption) (by show 2≤1099511627776;omega) hq;have hbH:(byC H).length=32:=by rw[zd,hl]
 unfold sgB at hB;simp only[Bool.and_eq_true,decide_eq_true_eq] at hB;obtain⟨⟨⟨⟨e1,e2⟩,e3⟩,e4⟩,e5⟩:=hB;rw[e1] at hE1 hE2;have d4:decide (x=0)=false:=decide_eq_false e4;have d5:decide (d=0)=false:=decide_eq_false e5;rw[show ([x,d].all fun x=>zK x x q)=true by simp[e2,e3]] at hX;have hq1:=(zL e2).1;have hxq:=(zL e2).2.1;have hdq:=(zL e3).2.1;have hcl:c<q:=by rw[← hc];exact vA Om _ _
 have hCh:=fun gG gK gH=>kR p q g h (g ^ x%p) (g ^ d%p) gG gK gH H hq Om hH hl;rw[show fu q (g ^ x%p) (g ^ d%p) H=c from hc] at hCh;have hM:=ki p q g h x c hx (Nat.lt_trans hcl hq) hq;rw[show zK x c q=true by simp[zK,hq1,hxq,hcl]] at hM;have hml:x*c%q<q:=Nat.mod_lt _ Om;have hA:=mf p q g h d (x*c%q) hd (Nat.lt_trans hml hq) hq;rw[show zK d (x*c%q) q=true by simp[zK,hq1,hdq,hml]] at hA;have hS:=f9 p q g h (g ^ x%p) H hl;clear hc;generalize (d+x*c%q)%q=S at *;generalize x*c%q=M at *;generalize g ^ x%p=P1 at *;generalize g ^ d%p=P2 at *;refine Fn.enter Tryz.func146 rfl rfl rfl ?_;intro w hw
 repeat (first|refine Tj ?_|intro _|refine WO.acall (hc:=hE1) (k:=?_)|refine WO.acall (hc:=hE2) (k:=?_)|refine WO.does (zA rfl rfl rfl) ?_|refine WO.does (zw rfl rfl hx zC d4) ?_|refine WO.does (zw rfl rfl hd zC d5) ?_|(refine WO.makes (zh (cs:=zc x++zc d) rfl Dt rfl) ?_;intro _)|refine WO.acallR (hc:=hX _) (hR:=fun w1 hm=>RdF.seg (f:=zc) (xs:=[x,d]) (r:=[]) (Hs.sg hm)) (k:=?_)|refine Tc ?_|exact Tz)
 refine WC.adraw 7 (k:=?_)
 iterate 2 (refine DQ.auto (k:=?_))
 refine DQ.does (fun s _=>zx (vs:=byC H) (hc:=zB hbH) (hl:=hbH)) Dp.const ?_
 refine DQ.callsE (fs:=fun _=>[]) (cs:=fun _=>[]) (R:=fun _=>Tr) (vf:=fun _ x=>.func (.func 203) #[] #[pt (x 0),pt (x 1),pt (x 2)]) (Nf:=fun _ x=>[⟨x 2,70,byC H⟩,⟨x 1,24,zc P1⟩,⟨x 0,26,yC p q g h⟩]) (S:=fun _ _=>True) (fun _=>[]) (fun _=>.nil)
  (fun _=>⟨fun _=>0,trivial⟩) (fun _ _=>hS) (fun _=>rfl) (fun _=>rfl) (fun _=>rfl) (fun _ _ w hm=>trivial) Dp.const Dp.const Dp.const ?_
 try dsimp only[List.map_cons,List.map_nil,List.cons_append,List.nil_append]
 refine DQ.auto (k:=?_)
 refine DQ.callsE (fs:=fun _=>[]) (cs:=fun s=>[pt (s 3 0),pt (s 3 1),pt (s 3 2)]) (R:=fun s w=>Seg w (s 3 0) 0 (yC p q g h)∧Seg w (s 3 1) 0 (zc P1)∧Seg w (s 3 2) 0 (byC H)) (vf:=fun _ _=>zi c) (Nf:=fun _ _=>[]) (S:=fun _ _=>True) (fun s=>[⟨s 3 2,70,byC H⟩,⟨s 3 1,24,zc P1⟩,⟨s 3 0,26,yC p q g h⟩])
  (fun s=>.cons 3 Mh.a Dkk (.cons 3 Mh.a Dkk (.cons 3 Mh.a Dkk .nil)))
  (fun _=>⟨fun _=>0,trivial⟩) (fun s _=>(hCh (s 3 0) (s 3 1) (s 3 2)).ex) (fun _=>rfl) (fun _=>rfl) (fun _=>rfl) (fun s _ w hm=>⟨Hs.seg (.there (.there .here)) hm,Hs.seg (.there .here) hm,Hs.seg .here hm⟩) Dp.const Dp.const Dp.const ?_
 try dsimp only[List.map_cons,List.map_nil,List.cons_append,List.nil_append]
 refine DQ.autoM (k:=?_);refine DQ.anil (k:=?_);intro sx _;generalize sx 6 0=gC
 repeat (first|refine Tj ?_|intro _|refine WO.acall (hc:=hM) (k:=?_)|refine WO.acall (hc:=hA) (k:=?_)|refine Tc ?_|exact Tz)
 done
theorem aaC (x d:Nat) (H:LN) (hp:p<ze) (hq:q<ze) (hg:g<ze) (hx:x<ze) (hd:d<ze) (hH:∀ b∈H,b<256) (hl:H.length=32) :
  Fn Tryz.prog 146 [vI p q g h,zi x,.agg (byC H).toArray,zi d] Tr (Is (prV (sgB p q g x d) (sgC p q g x d H) ((d+x*sgC p q g x d H%q)%q))):=by
 generalize hc:sgC p q g x d H=c;cases hB:sgB p q g x d with
 | false=>exact adv p q g h x d c _ H hp hq hg hx hd hl hB
 | true=>exact acd p q g h x d c H hp hq hg hx hd hH hl hB hc
end
theorem iA (n:Nat) (hn:n<1000):Fn Tryz.prog 241 [.int .i64 (n:Int)] Tr (Is (.int .i64 (-((n+1:Nat):Int)))):=by
 have h1:IntKind.i64.wrap (0 - (n:Int)) = -(n:Int):=by simp[IntKind.wrap,IntKind.signed,IntKind.bits];omega
 have h2:IntKind.i64.wrap (-(n:Int) - 1) = -((n+1:Nat):Int):=by simp[IntKind.wrap,IntKind.signed,IntKind.bits];omega
 refine Fn.enter Tryz.func241 rfl rfl rfl ?_;intro w hw
 repeat (first|refine Tj ?_|intro _|refine WO.does (nx rfl h1) ?_|refine WO.does (zE rfl rfl h2) ?_|refine Tc ?_|exact Tz)
abbrev aT:List Value:=[.int .i64 3,.func (.func 241) #[] #[]]
theorem dp:Fn Tryz.prog 204 [] Tr (Is (.agg aT.toArray)):=by
 refine Fn.enter Tryz.func204 rfl rfl rfl ?_;intro w hw
 repeat (first|refine Tk ?_|intro _|exact Tz)
def scN (q:Nat) (l:LN) (i:Nat):Nat:=ya l (q - (i+1))%q
def scL (q:Nat) (l:LN) (n:Nat):List Nat:=(List.range n).map (scN q l)
section
variable (p q g h:Nat)
theorem iG (l:LN) (pz:Option Addr) (c i gS gG gP:Nat) (hl:∀ a∈l,a<ze) (hn:l.length≤1099511627776) (hq:q<ze) (hb1:uf q l=true) (hi:i+1<q) (hi2:i<900) :
  Fn Tryz.prog 232 ([.int .i64 (i:Int)]++[pt gG,pt gP,pt gS]) (fun w=>Seg w gG 0 (yC p q g h)∧Seg w gP 0 [.slice pz l.length c]∧Seg w gS 0 aT∧RdF zc (.slice pz l.length c) l w) (Is (.tuple #[zi (scN q l i),.int .i64 0])):=by
 have h1:=iA i Om;have h2:=iP p q g h (i+1) Om Om hi hq;have h3:=oR p q g h l pz c (q - (i+1)) hl hn hq Om hb1 Om;rw[show ya l (q - (i+1))%q=scN q l i from rfl] at h3;generalize scN q l i=V at *;refine Fn.enter Tryz.func232 rfl rfl rfl ?_;intro w hw;obtain⟨wG,wP,wS,wL⟩:=hw
 repeat (first|refine Tk ?_|intro _|exact Tz)
 refine WC.adraw 11 (k:=?_)
 iterate 11 (first|refine Da ?_|refine DQ.does (fun s _=>zm (hs:=wG) (hle:=Nat.le_refl _) (vs:=yC p q g h)) Dp.const ?_|refine DQ.does (fun s _=>zn (hs:=wP) (hle:=Nat.le_refl _)) Dp.const ?_|refine DQ.does (fun s _=>zn (hs:=wS) (hle:=Nat.zero_le _)) Dp.const ?_|refine DQ.acallV (hc:=h1) (k:=?_)|refine DQ.acall (hc:=h2) (k:=?_)|refine DQ.acallM (hc:=h3) (hR:=fun w hm=>wL.mod hm.mod) (k:=?_)|refine Dc ?_)
 refine DQ.anil (k:=?_);intro sx _
 repeat (first|refine Tk ?_|intro _|exact Tz)
 done
end
section
variable (p q g h:Nat) (l:LN) (pz:Option Addr) (c m:Nat)
theorem fE (hl:∀ a∈l,a<ze) (hn:l.length≤1099511627776) (hq:q<ze) (hb1:uf q l=true) (h1:1≤m) (hm:m≤3) (hmq:m<q) :
  Fn Tryz.prog 189 [.agg aT.toArray,vI p q g h,.slice pz l.length c,.int .i64 (m:Int)] (RdF zc (.slice pz l.length c) l)
   (Ex (fun s=>.tuple #[AQ (s 0) m m,.int .i64 0]) (fun s=>[⟨s 0,24,(scL q l m).flatMap zc⟩]) (fun _=>True)):=by
 have hC:=fun gS gG gP=>aaE (f:=232) [pt gG,pt gP,pt gS] (scN q l) m (fun w=>Seg w gG 0 (yC p q g h)∧Seg w gP 0 [.slice pz l.length c]∧Seg w gS 0 aT∧RdF zc (.slice pz l.length c) l w)
  (fun w w' ⟨a,b,d,e⟩ hb=>⟨zU.seg w w' a hb,zU.seg w w' b hb,zU.seg w w' d hb,e.mod (.of_below hb _)⟩) Om (fun i hi=>iG p q g h l pz c i gS gG gP hl hn hq hb1 Om Om)
 refine Fn.enter Tryz.func189 rfl rfl rfl ?_;intro w hw
 repeat (first|refine Tj ?_|intro _|refine WO.does (z7 rfl rfl Om) ?_|refine WO.does (zH rfl rfl) ?_|refine WO.does (yK rfl rfl Om) ?_|refine Tc ?_|exact Tz)
 repeat (first|refine Tj ?_|intro _|refine WO.does (zH rfl rfl) ?_|refine WO.acallX (hc:=hC _ _ _) (hR:=fun w1 hm=>⟨Hs.sg hm,Hs.sg hm,Hs.sg hm,hw.mod hm.mod⟩) (k:=fun s _=>?_)|refine Tc ?_|exact Tz)
 generalize s 0=g0
 repeat (first|refine Tk ?_|intro _|exact Tz)
 exact WX.ret2 rfl Rv.t Rv.t [⟨g0,24,(scL q l m).flatMap zc⟩] (Lle.c Lle.nil) ⟨fun _=>g0,rfl,rfl,trivial⟩
theorem dU (hl:∀ a∈l,a<ze) (hn:l.length≤1099511627776) (hq:q<ze) (hb1:uf q l=true) (h1:1≤m) (hm:m≤3) (hmq:m<q) :
  Fn Tryz.prog 163 [vI p q g h,.slice pz l.length c,.int .i64 (m:Int)] (RdF zc (.slice pz l.length c) l)
   (Ex (fun s=>.tuple #[AQ (s 0) m m,.int .i64 0]) (fun s=>[⟨s 0,24,(scL q l m).flatMap zc⟩]) (fun _=>True)):=by
 have hV:=fE p q g h l pz c m hl hn hq hb1 h1 hm hmq;have hN:=dp;refine Fn.enter Tryz.func163 rfl rfl rfl ?_;intro w hw
 repeat (first|refine Tk ?_|intro _|exact Tz)
 refine WC.adraw 9 (k:=?_);refine DQ.acall (hc:=hN) (k:=?_)
 iterate 3 (refine DQ.auto (k:=?_))
 refine DQ.callsE (fs:=fun _=>[]) (cs:=fun _=>[]) (R:=fun _=>RdF zc (.slice pz l.length c) l) (vf:=fun _ x=>.tuple #[AQ (x 0) m m,.int .i64 0]) (Nf:=fun _ x=>[⟨x 0,24,(scL q l m).flatMap zc⟩]) (S:=fun _ _=>True) (fun _=>[]) (fun _=>.nil)
  (fun _=>⟨fun _=>0,trivial⟩) (fun _ _=>hV) (fun _=>rfl) (fun _=>rfl) (fun _=>by simp) (fun _ _ w hm=>hw.mod hm.mod) Dp.const Dp.const Dp.const ?_
 try dsimp only[List.map_cons,List.map_nil,List.cons_append,List.nil_append]
 iterate 4 (refine DQ.auto (k:=?_))
 refine DQ.anil (k:=?_);intro sx _;generalize sx 4 0=g0
 repeat (first|refine Tk ?_|intro _|exact Tz)
 exact WX.ret2 rfl Rv.t Rv.t [⟨g0,24,(scL q l m).flatMap zc⟩] (Lle.c Lle.nil) ⟨fun _=>g0,rfl,rfl,trivial⟩
end
theorem RdF.nilV {α:Type} {f:α→List Value} {w:World} {c:Nat}:RdF f (.slice none 0 c) [] w:=⟨_,_,rfl,.inl ⟨rfl,rfl⟩⟩
theorem RdF.ownO {α:Type} {f:α→List Value} {xs:List α} {r:LV} {w:World} {g n c:Nat} (hs:Seg w g 0 (xs.flatMap f++r)) (hn:xs.length=n):RdF f (AQ g n c) xs w:=by
 subst hn;exact RdF.seg hs
theorem vW {A C vs:LV} {j n:Nat} (hn:A.length=n):over (A++C) (n+j) vs=A++over C j vs:=by
 subst hn;unfold over;rw[List.take_append,List.drop_append,List.take_of_length_le Om,List.drop_of_length_le Om,List.nil_append,show A.length+j - A.length=j by omega,show A.length+j+vs.length - A.length=j+vs.length by omega];simp only[List.append_assoc]
end Sx
end
end Go.Proofs.YtiaibpcaloigkaaGreatDoor
