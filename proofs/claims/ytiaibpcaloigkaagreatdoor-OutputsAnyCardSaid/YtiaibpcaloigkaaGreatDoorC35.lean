/- Part 35 of the proof. -/
import Derived.Test.YtiaibpcaloigkaaGreatDoorC33
import Derived.Test.YtiaibpcaloigkaaGreatDoorC34
set_option linter.unusedSimpArgs false
set_option linter.unusedVariables false
set_option maxHeartbeats 8000000
namespace Go.Proofs.YtiaibpcaloigkaaGreatDoor
section
open Go Go.RowKit Go.BigFrame
namespace Sx
attribute [local irreducible] DQ WC WO WX wd
def ut (n:Nat) (N:LP):Bool:=decide (1≤n) && decide (n≤N.length)
theorem yr {n:Nat} {N:LP} (h:ut n N=true):1≤n∧n≤N.length:=by
 unfold ut at h;simp at h;exact h
section
variable (p q g h:Nat) (f sec:Int) (pt:Option Addr) (c:Nat) (N:LP)
theorem adm (n:Nat) (hn:n<256) (hNl:N.length≤1099511627776):Fn Tryz.prog 81 [stV p q g h f sec (.slice pt N.length c),.int .u8 (n:Int)] Tr (Is (.bool (ut n N))):=by
 have hcv:IntKind.i64.wrap (n:Int)=(n:Int):=i64_in Om Om;unfold ut
 by_cases h1:1≤n
 ·rw[decide_eq_true h1,Bool.true_and];have d1:decide ((1:Int)≤(n:Int))=true:=decide_eq_true Om;have d2:decide ((n:Int)≤(N.length:Int))=decide (n≤N.length):=by simp
  refine Fn.enter Tryz.func81 rfl rfl rfl ?_;intro w hw
  repeat (first|refine Tk ?_|intro _|exact Tz)
  rw[d1]
  repeat (first|refine Tj ?_|intro _|refine WO.does (zC rfl hcv) ?_|refine Tc ?_|exact Tz)
  rw[d2]
  repeat (first|refine Tk ?_|intro _|exact Tz)
 ·rw[decide_eq_false h1,Bool.false_and];have d1:decide ((1:Int)≤(n:Int))=false:=decide_eq_false Om;refine Fn.enter Tryz.func81 rfl rfl rfl ?_;intro w hw
  repeat (first|refine Tk ?_|intro _|exact Tz)
  rw[d1]
  repeat (first|refine Tk ?_|intro _|exact Tz)
end
def abL (ep d n:Nat):List Nat:=be 8 ep++be 1 d++be 1 n
theorem vL (ep d n:Nat):(abL ep d n).length=10:=by unfold abL;simp only[List.length_append,zm]
def jz (p q h x key:Nat):Bool:=zR x x q && yw p h && decide (h ^ x%p=key)
theorem vw (r:Nat):okV true r=r:=rfl
theorem eE {p h x:Nat} (hm:yw p h=true):h ^ x%p<p:=Nat.mod_lt _ (by have:=(yX hm).1;omega)
def my:ByteArray:=⟨#[100,114,97,119]⟩
def vh (q x:Nat) (H:LN):Nat:=if nF q (zY my) [be 32 x,H]=0 then 1 else nF q (zY my) [be 32 x,H]
theorem abZ {p q g h:Nat} {f sec:Int} {N:LP} (hs:yW p q g h f sec N=true):yw p h=true:=by
 unfold yW at hs;simp only[Bool.and_eq_true] at hs;have hk:=hs.1.2;unfold kB at hk;rw[Bool.and_eq_true] at hk;exact yC hk.1
theorem jO {p q h x key:Nat} (hs:jz p q h x key=true):zR x x q=true:=by
 unfold jz at hs;simp only[Bool.and_eq_true] at hs;exact hs.1.1
theorem oJ {q x:Nat} {H:LN} (h0:0<q) (hq:q<zd):vh q x H<zd:=by
 unfold vh;split
 ·exact vb
 ·exact Nat.lt_trans (vC h0 _ _) hq
theorem aP {n:Nat} (h:n<256):be 1 n=[n]:=by
 simp[be,List.range,List.range.loop];omega
theorem lx {ep d n:Nat} (hd:d<256) (hn:n<256):byC (be 8 ep)++[.int .u8 (d:Int),.int .u8 (n:Int)]=byC (abL ep d n):=by
 unfold abL;rw[aP hd,aP hn,yq,yq];simp[byC]
theorem acT {ep d n:Nat}:∀ b∈abL ep d n,b<256:=by
 intro b hb;unfold abL at hb
 rcases List.mem_append.1 hb with hb|hb
 ·rcases List.mem_append.1 hb with hb|hb<;>exact um b hb
 ·exact um b hb
abbrev dlV (ep d:Nat) (v y pr:Value) (c s:Nat):Value:=.agg #[.int .u64 (ep:Int),.int .u8 (d:Int),v,y,pr,.int .u64 ((wd 0 c:Nat):Int),.int .u64 ((wd 1 c:Nat):Int),.int .u64 ((wd 2 c:Nat):Int),.int .u64 ((wd 3 c:Nat):Int),.int .u64 ((wd 0 s:Nat):Int),.int .u64 ((wd 1 s:Nat):Int),.int .u64 ((wd 2 s:Nat):Int),.int .u64 ((wd 3 s:Nat):Int)]
abbrev dlC (ep d:Nat) (v y pr:Value) (c s:Nat):List Value:=[.int .u64 (ep:Int),.int .u8 (d:Int),v,y,pr,.int .u64 ((wd 0 c:Nat):Int),.int .u64 ((wd 1 c:Nat):Int),.int .u64 ((wd 2 c:Nat):Int),.int .u64 ((wd 3 c:Nat):Int),.int .u64 ((wd 0 s:Nat):Int),.int .u64 ((wd 1 s:Nat):Int),.int .u64 ((wd 2 s:Nat):Int),.int .u64 ((wd 3 s:Nat):Int)]
end Sx
end
section
open Go Go.RowKit Go.BigFrame
namespace Sx
attribute [local irreducible] wd
def uY:ByteArray:=⟨#[115,104,97,114,101]⟩
def tz:ByteArray:=⟨#[100,101,97,108,105,110,103]⟩
def ab3:ByteArray:=⟨#[115,105,103,110]⟩
def exN (p a n:Nat):Nat:=okV (yw p a) (a ^ n%p)
def shN (q:Nat) (l:LN) (i:Nat):Nat:=zF l (i+1)%q
def shL (q:Nat) (l:LN) (n:Nat):List Nat:=(List.range n).map (shN q l)
def ky (N:LP) (i:Nat):Nat:=(N.getD i (0,0)).2
def dV (p q g:Nat) (l:LN) (i:Nat):Nat:=exN p g (shN q l i)
def dY (p q:Nat) (l:LN) (N:LP) (i:Nat):Nat:=exN p (ky N i) (shN q l i)
def dH (ep d v y i:Nat):List Nat:=hOf (zY uY) [abL ep d (i+1),be 32 v,be 32 y]
def pfN (p q g x k draw:Nat):Nat × Nat:=(okV (prB p q x g k draw) (prC p q (zY uY) x g k draw),okV (prB p q x g k draw) ((draw+x*prC p q (zY uY) x g k draw%q)%q))
def dP (p q g:Nat) (l:LN) (N:LP) (ep d x i:Nat):Nat × Nat :=
 pfN p q g (shN q l i) (ky N i) (vh q x (dH ep d (dV p q g l i) (dY p q l N i) i))
def uj (ep d:Nat) (V Y:LN) (Pr:LP):List Nat:=hOf (zY tz) [be 8 ep++be 1 d,V.flatMap (be 32),Y.flatMap (be 32),Pr.flatMap fun k=>be 32 k.1++be 32 k.2]
def sgB (p q g x draw:Nat):Bool:=yw p g && zR x x q && zR draw draw q && decide (x≠0) && decide (draw≠0)
def sgC (p q g x draw:Nat) (H:LN):Nat:=nF q (zY ab3) [be 32 (g ^ x%p),be 32 (g ^ draw%p),H]
def sgN (p q g x draw:Nat) (H:LN):Nat × Nat:=(okV (sgB p q g x draw) (sgC p q g x draw H),okV (sgB p q g x draw) ((draw+x*sgC p q g x draw H%q)%q))
def dVs (p q g:Nat) (l:LN) (n:Nat):List Nat:=(List.range n).map (dV p q g l)
def dYs (p q:Nat) (l:LN) (N:LP) (n:Nat):List Nat:=(List.range n).map (dY p q l N)
def dPs (p q g:Nat) (l:LN) (N:LP) (ep d x n:Nat):List (Nat × Nat):=(List.range n).map (dP p q g l N ep d x)
def dHs (p q g:Nat) (l:LN) (N:LP) (ep d x n:Nat):List Nat:=uj ep d (dVs p q g l n) (dYs p q l N n) (dPs p q g l N ep d x n)
def dSg (p q g:Nat) (l:LN) (N:LP) (ep d x n:Nat):Nat × Nat:=sgN p q g x (vh q x (dHs p q g l N ep d x n)) (dHs p q g l N ep d x n)
def sgK (N:LP) (d:Nat):Nat:=(N.getD (d - 1) (0,0)).1
def fj (p q g h:Nat) (f sec:Int) (N:LP) (d:Nat) (l:LN) (x:Nat):Bool :=
 yW p q g h f sec N && ut d N && (decide ((l.length:Int)=f+sec) && v8 q l) && jz p q g x (sgK N d)
theorem ve {α:Type} (f:Nat→α) {i:Nat}:(List.range (i+1)).map f=(List.range i).map f++[f i]:=by
 rw[List.range_succ,List.map_append];rfl
theorem tj {p a n:Nat} (hp:p<zd):exN p a n<zd:=by
 unfold exN;cases h:yw p a with
 | false=>exact zG
 | true=>exact Nat.lt_trans (eE h) hp
theorem af9 {q i:Nat} {l:LN} (h:0<q):shN q l i<q:=Nat.mod_lt _ h
theorem pI {b:Bool} {x:Nat} (h:x<zd):okV b x<zd:=by
 cases b with
 | false=>exact zG
 | true=>exact h
theorem agD {p q g x k draw:Nat} (h0:0<q) (hq:q<zd):(pfN p q g x k draw).1<zd∧(pfN p q g x k draw).2<zd :=
 ⟨pI (Nat.lt_trans (vC h0 _ _) hq),pI (Nat.lt_trans (Nat.mod_lt _ h0) hq)⟩
theorem ag4 {p q g x draw:Nat} {H:LN} (h0:0<q) (hq:q<zd):(sgN p q g x draw H).1<zd∧(sgN p q g x draw H).2<zd :=
 ⟨pI (Nat.lt_trans (vC h0 _ _) hq),pI (Nat.lt_trans (Nat.mod_lt _ h0) hq)⟩
theorem ya {p q g h:Nat} {f sec:Int} {N:LP} (hs:yW p q g h f sec N=true):1≤N.length∧N.length≤7∧N.length<q∧0≤f∧1≤sec∧f+sec≤5∧yw p g=true∧yw p h=true:=by
 have hm:=abZ hs;unfold yW at hs;simp only[Bool.and_eq_true,decide_eq_true_eq] at hs;obtain⟨⟨⟨⟨⟨⟨⟨⟨⟨⟨h1,h2⟩,h3⟩,h4⟩,h5⟩,h6⟩,h7⟩,h8⟩,h9⟩,_⟩,_⟩:=hs;unfold kB at h9;rw[Bool.and_eq_true] at h9;exact⟨by omega,by omega,by omega,h1,h3,by omega,yC h9.1,hm⟩
theorem afR {N:LP} {i:Nat} {k:Nat × Nat} (h:N[i]?=some k):ky N i=k.2:=by
 simp[ky,List.getD,h]
theorem aea {d:Nat} {N:LP} {k:Nat × Nat} (h:N[d - 1]?=some k):sgK N d=k.1:=by
 simp[sgK,List.getD,h]
theorem adA {q n i:Nat} {l:LN} (h:i<n):(shL q l n)[i]?=some (shN q l i):=by
 simp[shL,h]
theorem km {ep d:Nat} {V Y:LN} {Pr:LP}:∀ X∈[be 8 ep++be 1 d,V.flatMap (be 32),Y.flatMap (be 32),Pr.flatMap fun k=>be 32 k.1++be 32 k.2],∀ x∈X,x<256:=by
 intro X hX x hx;simp only[List.mem_cons,List.not_mem_nil,or_false] at hX
 rcases hX with rfl|rfl|rfl|rfl
 ·rcases List.mem_append.1 hx with h|h<;>exact um _ h
 ·obtain⟨_,_,h⟩:=List.mem_flatMap.1 hx;exact um _ h
 ·obtain⟨_,_,h⟩:=List.mem_flatMap.1 hx;exact um _ h
 ·obtain⟨_,_,h⟩:=List.mem_flatMap.1 hx
  rcases List.mem_append.1 h with h|h<;>exact um _ h
theorem tW (l:LN):(l.flatMap (be 32)).length=l.length*32:=by
 induction l with
 | nil=>rfl
 | cons a r ih=>rw[List.flatMap_cons,List.length_append,zm,ih,List.length_cons];omega
theorem pW (l:LP):(l.flatMap fun k=>be 32 k.1++be 32 k.2).length=l.length*64:=by
 induction l with
 | nil=>rfl
 | cons a r ih=>rw[List.flatMap_cons,List.length_append,List.length_append,zm,zm,ih,List.length_cons];omega
theorem aen {p q g x key:Nat}:jz p q g x key=(zR x x q && yw p g && decide (exN p g x=key)):=by
 unfold jz exN;cases yw p g with
 | false=>simp
 | true=>rfl
end Sx
end
section
open Go Go.RowKit Go.BigFrame
namespace Sx
attribute [local irreducible] DQ WC WO WX wd
theorem i2 (n:Nat) (hn:n<4611686018427387904):Fn Tryz.prog 231 [.int .i64 (n:Int)] Tr (Is (.int .i64 ((n+1:Nat):Int))):=by
 have ha:IntKind.i64.wrap ((n:Int)+1)=((n+1:Nat):Int):=zo Om Om Om;refine Fn.enter Tryz.func231 rfl rfl rfl ?_;intro w hw
 repeat (first|refine Tj ?_|intro _|refine WO.does (ze rfl rfl ha) ?_|refine Tc ?_|exact Tz)
abbrev aa1:List Value:=[.int .i64 7,.func (.func 231) #[] #[]]
theorem dN:Fn Tryz.prog 188 [] Tr (Is (.agg aa1.toArray)):=by
 refine Fn.enter Tryz.func188 rfl rfl rfl ?_;intro w hw
 repeat (first|refine Tk ?_|intro _|exact Tz)
section
variable (p q g h:Nat)
theorem af (l:LN) (pz:Option Addr) (c i gS gG gP:Nat) (hl:∀ a∈l,a<zd) (hn:l.length≤1099511627776) (hq:q<zd) (hb1:v8 q l=true) (hi:i+1<q) (hi2:i<1000) :
  Fn Tryz.prog 232 ([.int .i64 (i:Int)]++[pt gG,pt gP,pt gS]) (fun w=>Seg w gG 0 (yu p q g h)∧Seg w gP 0 [.slice pz l.length c]∧Seg w gS 0 aa1∧RdF zc (.slice pz l.length c) l w) (Is (.tuple #[zj (shN q l i),.int .i64 0])):=by
 have h1:=i2 i Om;have h2:=qS p q g h (i+1) Om hq;rw[oh q (i+1) Om,Nat.mod_eq_of_lt hi] at h2;have h3:=m6 p q g h l pz c (i+1) hl hn hq (Nat.lt_trans hi hq) hb1 hi;rw[show zF l (i+1)%q=shN q l i from rfl] at h3;generalize shN q l i=V at *;refine Fn.enter Tryz.func232 rfl rfl rfl ?_;intro w hw;obtain⟨wG,wP,wS,wL⟩:=hw
 repeat (first|refine Tk ?_|intro _|exact Tz)
 refine WC.adraw 11 (k:=?_)
 iterate 11 (first|refine Da ?_|refine DQ.does (fun s _=>zk (hs:=wG) (hle:=Nat.le_refl _) (vs:=yu p q g h)) Dp.const ?_|refine DQ.does (fun s _=>zn (hs:=wP) (hle:=Nat.le_refl _)) Dp.const ?_|refine DQ.does (fun s _=>zn (hs:=wS) (hle:=Nat.zero_le _)) Dp.const ?_|refine DQ.acallV (hc:=h1) (k:=?_)|refine DQ.acall (hc:=h2) (k:=?_)|refine DQ.acallM (hc:=h3) (hR:=fun w hm=>wL.mod hm.mod) (k:=?_)|refine Dc ?_)
 refine DQ.anil (k:=?_);intro sx _
 repeat (first|refine Tk ?_|intro _|exact Tz)
 done
end
theorem iY {f:Nat} [Cal Tryz.prog f] (caps:LV) (V:Nat→Nat) (m:Nat) (R:World→Prop) (hst:zM R) (hm:m≤100)
  (hf:∀ i,i<m→Fn Tryz.prog f ([.int .i64 (i:Int)]++caps) R (Is (.tuple #[zj (V i),.int .i64 0]))) :
  Fn Tryz.prog 208 [.int .i64 (m:Int),.func (.func f) #[] caps.toArray] R
   (Ex (fun s=>.tuple #[AX (s 0) m m,.int .i64 0]) (fun s=>[⟨s 0,24,((List.range m).map V).flatMap zc⟩]) (fun _=>True)):=by
 refine Fn.enter Tryz.func208 rfl rfl rfl ?_;intro w hw
 repeat (first|refine Tj ?_|intro _|(refine WO.makes (zS (l:=0) (c:=m) rfl rfl Om Om Om) ?_;intro g)|refine Tc ?_|exact Tz)
 refine WC.loopI (σ:=Nat) (fun i=>i≤m) (fun i=>[(1,.func (.func f) #[] caps.toArray),(5,.int .i64 0),(6,AX g i m),(12,.int .i64 (m:Int)),(13,.int .i64 (i:Int))]) (fun i=>[⟨g,24,((List.range i).map V).flatMap zc++mkz (m - i) (zc 0)⟩]) (fun i=>m - i) 0 (fun i hi=>?_) (Nat.zero_le _)
 try dsimp only at hi ⊢
 by_cases hlt:i<m
 ·have hadd2:IntKind.i64.wrap ((i:Int)+1)=((i+1:Nat):Int):=zo Om Om Om;have hcall:=hf i hlt;have hx:((List.range m).map V)[i]?=some (V i):=by simp[hlt]
  have htk:∀ j,j≤m→((List.range m).map V).take j=(List.range j).map V:=fun j hj=>by rw[← List.map_take,List.take_range,Nat.min_eq_left hj]
  have hov:=rK (f:=zc) (z:=zc 0) (m:=m - i) zL rfl hx Om;rw[htk i Om,htk (i+1) Om,show m - i - 1=m - (i+1) by omega] at hov;have hle:i*(zc 0).length+(zc (V i)).length≤(((List.range i).map V).flatMap zc++mkz (m - i) (zc 0)).length:=by
   rw[List.length_append,zy zL,zW,List.length_map,List.length_range];show i*4+4≤i*4+(m - i)*4;have:1*4≤(m - i)*4:=Nat.mul_le_mul_right _ Om;omega
  repeat (first|refine Tk ?_|intro _|exact Tz)
  refine WC.dT rfl Om ?_
  repeat (first|refine Tj ?_|intro _|refine WO.acallV (hc:=hcall) (hR:=fun w' hm=>hst _ _ hw hm.mod.below) (k:=?_)|refine Tc ?_|exact Tz)
  repeat (first|refine Tj ?_|intro _|(refine WO.makes (zi (t:=46) (cs:=zc (V i)) rfl Dt rfl) ?_;intro g2)|refine WO.both (re (s:=undef) (z:=zc 0) rfl rfl (Rds.own (m:=4) Hs.here rfl) rfl Om rfl (by repeat (first|exact Rp.here|apply Rp.there)) hov hle rfl Dt) ?_|refine WO.does (ze rfl rfl hadd2) ?_|refine Tc ?_|exact Tz)
  exact WX.metI (i+1) (hs:=⟨by show i+1≤m;omega,by show m - (i+1)<m - i;omega⟩)
 ·have hi2:i=m:=by omega
  subst hi2;rw[Nat.sub_self,show mkz 0 (zc 0)=[] from rfl,List.append_nil]
  repeat (first|refine Tk ?_|intro _|exact Tz)
  refine WC.dF rfl Om ?_
  repeat (first|refine Tk ?_|intro _|exact Tz)
  exact WX.ret2 rfl Rv.t Rv.t [⟨g,24,((List.range i).map V).flatMap zc⟩] (Lle.c Lle.nil) ⟨fun _=>g,rfl,rfl,trivial⟩
section
variable (p q g h:Nat) (l:LN) (pz:Option Addr) (c m:Nat)
theorem acu (hl:∀ a∈l,a<zd) (hn:l.length≤1099511627776) (hq:q<zd) (hb1:v8 q l=true) (h1:1≤m) (hm:m≤7) (hmq:m<q) :
  Fn Tryz.prog 189 [.agg aa1.toArray,vg p q g h,.slice pz l.length c,.int .i64 (m:Int)] (RdF zc (.slice pz l.length c) l)
   (Ex (fun s=>.tuple #[AX (s 0) m m,.int .i64 0]) (fun s=>[⟨s 0,24,(shL q l m).flatMap zc⟩]) (fun _=>True)):=by
 have hC:=fun gS gG gP=>iY (f:=232) [pt gG,pt gP,pt gS] (shN q l) m (fun w=>Seg w gG 0 (yu p q g h)∧Seg w gP 0 [.slice pz l.length c]∧Seg w gS 0 aa1∧RdF zc (.slice pz l.length c) l w)
  (fun w w' ⟨a,b,d,e⟩ hb=>⟨zM.seg w w' a hb,zM.seg w w' b hb,zM.seg w w' d hb,e.mod (.of_below hb _)⟩) Om (fun i hi=>af p q g h l pz c i gS gG gP hl hn hq hb1 Om Om)
 refine Fn.enter Tryz.func189 rfl rfl rfl ?_;intro w hw
 repeat (first|refine Tj ?_|intro _|refine WO.does (zO rfl rfl Om) ?_|refine WO.does (zH rfl rfl) ?_|refine WO.does (yb rfl rfl Om) ?_|refine Tc ?_|exact Tz)
 repeat (first|refine Tj ?_|intro _|refine WO.does (zH rfl rfl) ?_|refine WO.acallX (hc:=hC _ _ _) (hR:=fun w1 hm=>⟨Hs.sg hm,Hs.sg hm,Hs.sg hm,hw.mod hm.mod⟩) (k:=fun s _=>?_)|refine Tc ?_|exact Tz)
 generalize s 0=g0
 repeat (first|refine Tk ?_|intro _|exact Tz)
 exact WX.ret2 rfl Rv.t Rv.t [⟨g0,24,(shL q l m).flatMap zc⟩] (Lle.c Lle.nil) ⟨fun _=>g0,rfl,rfl,trivial⟩
theorem adl (hl:∀ a∈l,a<zd) (hn:l.length≤1099511627776) (hq:q<zd) (hb1:v8 q l=true) (h1:1≤m) (hm:m≤7) (hmq:m<q) :
  Fn Tryz.prog 144 [vg p q g h,.slice pz l.length c,.int .i64 (m:Int)] (RdF zc (.slice pz l.length c) l)
   (Ex (fun s=>.tuple #[AX (s 0) m m,.int .i64 0]) (fun s=>[⟨s 0,24,(shL q l m).flatMap zc⟩]) (fun _=>True)):=by
 have hV:=acu p q g h l pz c m hl hn hq hb1 h1 hm hmq;have hN:=dN;refine Fn.enter Tryz.func144 rfl rfl rfl ?_;intro w hw
 repeat (first|refine Tk ?_|intro _|exact Tz)
 refine WC.adraw 9 (k:=?_);refine DQ.acall (hc:=hN) (k:=?_)
 iterate 3 (refine DQ.auto (k:=?_))
 refine DQ.callsE (fs:=fun _=>[]) (cs:=fun _=>[]) (R:=fun _=>RdF zc (.slice pz l.length c) l) (vf:=fun _ x=>.tuple #[AX (x 0) m m,.int .i64 0]) (Nf:=fun _ x=>[⟨x 0,24,(shL q l m).flatMap zc⟩]) (S:=fun _ _=>True) (fun _=>[]) (fun _=>.nil)
  (fun _=>⟨fun _=>0,trivial⟩) (fun _ _=>hV) (fun _=>rfl) (fun _=>rfl) (fun _=>by simp) (fun _ _ w hm=>hw.mod hm.mod) Dp.const Dp.const Dp.const ?_
 try dsimp only[List.map_cons,List.map_nil,List.cons_append,List.nil_append]
 iterate 4 (refine DQ.auto (k:=?_))
 refine DQ.anil (k:=?_);intro sx _;generalize sx 4 0=g0
 repeat (first|refine Tk ?_|intro _|exact Tz)
 exact WX.ret2 rfl Rv.t Rv.t [⟨g0,24,(shL q l m).flatMap zc⟩] (Lle.c Lle.nil) ⟨fun _=>g0,rfl,rfl,trivial⟩
end
section
variable (p q g h:Nat) (f sec:Int) (ns:Value)
theorem ac5 (l:LN) (pz:Option Addr) (c:Nat) (hl:∀ a∈l,a<zd) (hn:l.length≤1099511627776) (hq:q<zd) (hf:0≤f∧0≤sec∧f+sec≤5) :
  Fn Tryz.prog 142 [stV p q g h f sec ns,.slice pz l.length c] (RdF zc (.slice pz l.length c) l) (Is (.bool (decide ((l.length:Int)=f+sec) && v8 q l))):=by
 have hadd:IntKind.i64.wrap (f+sec)=f+sec:=i64_in Om Om;cases hb:v8 q l with
 | true =>
  have hA:=m6 p q g h l pz c 0 hl hn hq (sj Dt) hb (by have:=(vV hb).1;omega);generalize zF l 0%q=V at *;rw[Bool.and_true];refine Fn.enter Tryz.func142 rfl rfl rfl ?_;intro w hw
  repeat (first|refine Tj ?_|intro _|refine WO.acallR (hc:=hA) (hR:=fun w1 hm=>hw.mod hm.mod) (k:=?_)|refine WO.does (ze rfl rfl hadd) ?_|refine Tc ?_|exact Tz)
  by_cases he:(l.length:Int)=f+sec
  ·have d:decide ((l.length:Int)=f+sec)=true:=decide_eq_true he;rw[d]
   repeat (first|refine Tk ?_|intro _|exact Tz)
  ·have d:decide ((l.length:Int)=f+sec)=false:=decide_eq_false he;rw[d]
   repeat (first|refine Tk ?_|intro _|exact Tz)
 | false =>
  have hA:=ade p q g h l pz c 0 hl hn hq (sj Dt) (by rw[hb,Bool.false_and]);rw[Bool.and_false];refine Fn.enter Tryz.func142 rfl rfl rfl ?_;intro w hw
  repeat (first|refine Tj ?_|intro _|refine WO.acallR (hc:=hA) (hR:=fun w1 hm=>hw.mod hm.mod) (k:=?_)|refine WO.does (ze rfl rfl hadd) ?_|refine Tc ?_|exact Tz)
  by_cases he:(l.length:Int)=f+sec
  ·have d:decide ((l.length:Int)=f+sec)=true:=decide_eq_true he;rw[d]
   repeat (first|refine Tk ?_|intro _|exact Tz)
  ·have d:decide ((l.length:Int)=f+sec)=false:=decide_eq_false he;rw[d]
   repeat (first|refine Tk ?_|intro _|exact Tz)
end
section
open Kp
variable {P:Program} {w0:World} {gs:LN} {n:Nat} {fl:LN} {Q:Exit→Act→World→Prop} {ops:List Oper} {L0:List Ent}
variable {tail rest:List Oper} {i:Nat} {C:zX→Prop} {K:zX→List (Nat × Value)} {N:zX→List (Nat × Ent)}
variable {d:Nat} {op:Op} {ty:TypeId} {pos:String} {after:Array Edge} {gd:Option (Nat × Bool)}
theorem DQ.acallS {f:FuncId} [Cal P f] {xs:Array Operand} {ats:Array TypeId} {vs:LV} {Rq:World→Prop} {t m:Nat} {cs:LV} (hc:Fn P f vs Rq (aal t m cs)) (hR:∀ w,Rq w) (ha:∀ s,evs (K s) xs.toList=some vs:=by (intro s;rfl))
  (k:DQ P w0 gs n fl Q ops L0 tail (i+1) rest (fun s=>C s∧True) (fun s=>(d,AX (s i 0) m m)::K s) (fun s=>(i,⟨s i 0,t,cs⟩)::N s))
  (hfl:fl.contains i=false:=by rfl) (hw:∀ s,wk ops (K s) gd=some true:=by intro _;rfl) (hd:Nat.blt d n=true:=by rfl) :
  DQ P w0 gs n fl Q ops L0 tail i (⟨some d,.call { callee:=.value (.func f),args:=xs,argTypes:=ats },ty,pos,after,gd⟩::rest) C K N :=
 DQ.callsE (fs:=fun _=>[]) (cs:=fun _=>[]) (R:=fun _=>Rq) (vf:=fun _ x=>AX (x 0) m m) (Nf:=fun _ x=>[⟨x 0,t,cs⟩]) (S:=fun _ _=>True) (fun _=>[]) (fun _=>.nil)
  (fun _=>⟨fun _=>0,trivial⟩) (fun _ _=>Fn.weak hc (fun _ h=>h) (fun v N ⟨g,e1,e2⟩=>⟨fun _=>g,e1,e2,trivial⟩)) (fun _=>rfl) ha (fun _=>by simp) (fun _ _ w _=>hR w) Dp.const Dp.const Dp.const k hfl hw hd
end
section
variable (p q g h:Nat)
theorem acL (x:Nat) (H:LN) (hx:x<zd) (hq:q<zd) (h0:0<q) (hH:∀ b∈H,b<256) (hl:H.length=32):Fn Tryz.prog 145 [vg p q g h,zj x,.agg (byC H).toArray] Tr (Is (zj (vh q x H))):=by
 have hP:=y9 [] x 0 none Dt;rw[List.nil_append] at hP;have hbl:(be 32 x).length=32:=zm _ _;rw[hbl] at hP;have hN:=fun g3 g5 gR=>sT q my [AX g3 32 32,AX g5 32 32] [be 32 x,H] gR 0 2 hq h0 (by
  intro X hX;simp only[List.mem_cons,List.not_mem_nil,or_false] at hX
  rcases hX with rfl|rfl
  ·exact um
  ·exact hH) (by
  simp only[yH,uQ,yU,List.flatMap_cons,List.flatMap_nil,List.length_append,zm,ym,List.length_nil,hl];decide) Dt
 have hlt:nF q (zY my) [be 32 x,H] < zd:=Nat.lt_trans (Nat.mod_lt _ h0) hq;unfold vh;generalize nF q (zY my) [be 32 x,H]=R at *;have hbH:(byC H).length=32:=by rw[zh,hl]
 refine Fn.enter Tryz.func145 rfl rfl rfl ?_;intro w hw
 repeat (first|refine Tk ?_|intro _|exact Tz)
 rename_i g3 g4 g5 g6;refine WC.adrawF [9] 11 (k:=?_)
 iterate 3 (refine DQ.auto (k:=?_))
 refine DQ.acallS (hc:=hP) (hR:=fun _=>Rd.nil) (k:=?_);refine DQ.does (v:=fun _=>AX g5 32 32) (fun s _=>yL rfl) Dp.const ?_;refine DQ.makes (vf:=fun _ g=>AX g 2 2) (t:=126) (cs:=fun s=>[AX (s 3 0) 32 32,AX g5 32 32]) (fun s _=>zi rfl Dt rfl) Dp.const (by intro s s' h;dsimp only;rw[h]<;>decide +kernel) ?_;refine DQ.callE (v:=fun _=>.tuple #[zj R,.int .i64 0]) (fun s=>[⟨s 5 0,126,[AX (s 3 0) 32 32,AX g5 32 32]⟩,⟨s 3 0,5,byC (be 32 x)⟩]) (fun s=>.cons 5 (.head _) Dkk (.cons 3 Mh.a Dkk .nil)) (fun s _=>hN (s 3 0) g5 (s 5 0)) (fun s=>rfl) (fun s hC w hm=>⟨Hs.seg Hs.here hm,z7.cons (by have:=RdP.own0 (g:=s 3 0) (c:=32) (X:=be 32 x) (t:=5) hm (Hs.there Hs.here) Om Dt;rw[hbl] at this;exact this) (z7.cons (by have:=RdP.own0 (g:=g5) (c:=32) (X:=H) (t:=70) hm Hs.a Om Dt;rw[hl] at this;exact this) z7.nil)⟩) Dp.const ?_
 repeat (first|refine Da ?_|refine Df ?_)
 refine DQ.anil (k:=?_);intro sx _
 repeat (first|refine Tj ?_|intro _|refine WO.does yJ ?_|refine Tc ?_|exact Tz)
 by_cases hR:R=0
 ·have d:decide (R=0)=true:=decide_eq_true hR;rw[if_pos hR,d]
  repeat (first|refine Tj ?_|intro _|refine WO.does (zA (cs:=zc 1) rfl rfl Kr) ?_|refine Tc ?_|exact Tz)
 ·have d:decide (R=0)=false:=decide_eq_false hR;rw[if_neg hR,d]
  repeat (first|refine Tk ?_|intro _|exact Tz)
end
theorem RdF.get {α:Type} {f:α→List Value} {pz:Option Addr} {n c:Nat} {xs:List α} {w:World} (h:RdF f (.slice pz n c) xs w) {i:Nat} {x:α} (hx:xs[i]?=some x):∃ b o,pz=some ⟨b,o,none⟩∧n=xs.length∧Seg w b o (xs.flatMap f):=by
 obtain⟨p,c',e,h⟩:=h;cases e
 rcases h with ⟨_,rfl⟩|⟨b,o,rfl,hs⟩
 ·simp at hx
 ·exact⟨b,o,rfl,rfl,hs⟩
section
variable (p q g h:Nat) (f sec:Int) (ns:Value)
theorem aaQ (x key:Nat) (hx:x<zd) (hk:key<zd) (hp:p<zd) (hq:q<zd) (hg:g<zd) :
  Fn Tryz.prog 143 [stV p q g h f sec ns,zj x,zj key] Tr (Is (.bool (jz p q g x key))):=by
 have hE:=vd p q g h g x hg hx hp;simp only[rE] at hE;have hEl:okV (yw p g) (g ^ x%p)<zd:=tj (n:=x) (a:=g) hp;have hS:jz p q g x key=(v8 q [x] && yw p g && decide (okV (yw p g) (g ^ x%p)=key)):=by
  rw[aen];congr 2;unfold zR v8;simp
 have d1:=agX (yw p g);generalize okV (yw p g) (g ^ x%p)=y at *;generalize okE (yw p g)=e at *;rw[hS,← d1];clear hS;cases hb:v8 q [x] with
 | true =>
  have hA:=fun b=>m6 p q g h [x] (some ⟨b,0,none⟩) 1 0 (by simpa using hx) (by show 1≤1099511627776;omega) hq (sj Dt) hb (by have:=(vV hb).1;omega);generalize zF [x] 0%q=V at *;rw[Bool.true_and];refine Fn.enter Tryz.func143 rfl rfl rfl ?_;intro w hw
  repeat (first|refine Tj ?_|intro _|(refine WO.makes (zi (cs:=zc x) rfl Dt rfl) ?_;intro _)|refine WO.acallR (hc:=hA _) (hR:=fun w hm=>RdF.seg (f:=zc) (xs:=[x]) (r:=[]) (Hs.sg hm)) (k:=?_)|refine WO.acall (hc:=hE) (k:=?_)|refine WO.does (yJ (ha:=hEl) (hb:=hk)) ?_|refine Tc ?_|exact Tz)
  by_cases he:e=0
  ·have d:decide (e=0)=true:=decide_eq_true he;rw[d,Bool.true_and]
   repeat (first|refine Tj ?_|intro _|refine WO.does (yJ (ha:=hEl) (hb:=hk)) ?_|refine Tc ?_|exact Tz)
  ·have d:decide (e=0)=false:=decide_eq_false he;rw[d,Bool.false_and]
   repeat (first|refine Tk ?_|intro _|exact Tz)
 | false =>
  have hA:=fun b=>ade p q g h [x] (some ⟨b,0,none⟩) 1 0 (by simpa using hx) (by show 1≤1099511627776;omega) hq (sj Dt) (by rw[hb,Bool.false_and]);rw[Bool.false_and,Bool.false_and];refine Fn.enter Tryz.func143 rfl rfl rfl ?_;intro w hw
  repeat (first|refine Tj ?_|intro _|(refine WO.makes (zi (cs:=zc x) rfl Dt rfl) ?_;intro _)|refine WO.acallR (hc:=hA _) (hR:=fun w hm=>RdF.seg (f:=zc) (xs:=[x]) (r:=[]) (Hs.sg hm)) (k:=?_)|refine WO.acall (hc:=hE) (k:=?_)|refine Tc ?_|exact Tz)
  done
end
def lgV (g n:Nat):Nat→Value
 | 0=>.slice none 0 0
 | _+1=>AX g n n
def lgL (g:Nat) (B:LN):Nat→List Ent
 | 0=>[]
 | _+1=>[⟨g,5,byC B⟩]
theorem cj (l:LN) (pz:Option Addr) (c:Nat) (hl:l≠[]) (hn:l.length≤8589934592) :
  Fn Tryz.prog 71 [.slice pz l.length c] (RdF zc (.slice pz l.length c) l) (aal 5 (l.flatMap (be 32)).length (byC (l.flatMap (be 32)))):=by
 refine Fn.enter Tryz.func71 rfl rfl rfl ?_;intro w hw
 repeat (first|refine Tk ?_|intro _|exact Tz)
 refine WC.loopI (σ:=Nat × Nat) (fun s=>s.1≤l.length) (fun s=>[(2,lgV s.2 ((l.take s.1).flatMap (be 32)).length s.1),(5,.slice pz l.length c),(6,.int .i64 (l.length:Int)),(7,.int .i64 (s.1:Int))])
  (fun s=>lgL s.2 ((l.take s.1).flatMap (be 32)) s.1) (fun s=>l.length - s.1) (0,0) (fun s hi=>?_) (Nat.zero_le _)
 obtain⟨i,g⟩:=s
 try dsimp only at hi ⊢
 by_cases hlt:i<l.length
 ·obtain⟨x,hx⟩ : ∃ x,l[i]?=some x:=⟨_,List.getElem?_eq_getElem hlt⟩;obtain⟨b,o,rfl,_,hs⟩:=hw.get hx;have hadd2:IntKind.i64.wrap ((i:Int)+1)=((i+1:Nat):Int):=zo Om Om Om;have hcx:cut (l.flatMap zc) (o+i*4 - o) 4=zc x:=by rw[Nat.add_sub_cancel_left];exact zB zL hx
  have hst:(l.take i).flatMap (be 32)++be 32 x=(l.take (i+1)).flatMap (be 32):=by rw[List.take_add_one,hx];simp
  have hBl:((l.take i).flatMap (be 32)).length≤549755813888:=by rw[tW,List.length_take];omega
  generalize hB2:(l.take (i+1)).flatMap (be 32)=B2 at *
  rcases i with _|i
  ·have hP:=y9 [] x 0 none Dt;rw[show []++be 32 x=B2 by rw[← hst];rfl] at hP
   repeat (first|refine Tk ?_|intro _|exact Tz)
   refine WC.dT rfl Om ?_
   repeat (first|refine Tj ?_|intro _|refine WO.does (zb (o':=o+0*4) rfl rfl hlt rfl) ?_|refine WO.does (zk (vs:=zc x) (hs:=hs) (hle:=Nat.le_add_right _ _) (hc:=hcx)) ?_|refine WO.acallN (hc:=hP) (hR:=fun _ _=>Rd.nil) (k:=fun g'=>?_)|refine Tc ?_|exact Tz)
   repeat (first|refine Tj ?_|intro _|refine WO.does (ze rfl rfl hadd2) ?_|refine Tc ?_|exact Tz)
   subst hB2;exact WX.metI (1,g') (hs:=⟨by show 0+1≤l.length;omega,by show l.length - (0+1)<l.length - 0;omega⟩)
  ·have hP:=y9 ((l.take (i+1)).flatMap (be 32)) x ((l.take (i+1)).flatMap (be 32)).length (some ⟨g,0,none⟩) hBl;rw[hst] at hP;generalize (l.take (i+1)).flatMap (be 32)=B1 at *
   try dsimp only[lgV,lgL]
   repeat (first|refine Tk ?_|intro _|exact Tz)
   refine WC.dT rfl Om ?_
   repeat (first|refine Tj ?_|intro _|refine WO.does (zb (o':=o+(i+1)*4) rfl rfl hlt rfl) ?_|refine WO.does (zk (vs:=zc x) (hs:=hs) (hle:=Nat.le_add_right _ _) (hc:=hcx)) ?_|refine WO.acallN (hc:=hP) (hR:=fun w1 hm=>Rd.of (Hs.sg hm)) (k:=fun g'=>?_)|refine Tc ?_|exact Tz)
   repeat (first|refine Tj ?_|intro _|refine WO.does (ze rfl rfl hadd2) ?_|refine Tc ?_|exact Tz)
   subst hB2;exact WX.metI (i+1+1,g') (hs:=⟨by show i+1+1≤l.length;omega,by show l.length - (i+1+1)<l.length - (i+1);omega⟩)
 ·have hi2:i=l.length:=by omega
  subst hi2;rw[List.take_length];cases l with
  | nil=>exact absurd rfl hl
  | cons a r =>
   try dsimp only[lgV,lgL,List.length_cons]
   repeat (first|refine Tk ?_|intro _|exact Tz)
   refine WC.dF rfl Om ?_
   repeat (first|refine Tk ?_|intro _|exact Tz)
   exact WX.retN
section
variable {w0:World} {gs:LN} {K:List (Nat × Value)} {L:List Ent}
theorem zx {x y:Operand} {yt ty:TypeId} {a b:Nat} {r:Bool} (hx:ev K x=some (zj a)) (hy:ev K y=some (zj b)) (ha:a<zd) (hb:b<zd) (hr:decide (a=b)=r) :
  Does Tryz.prog w0 gs K L (.binOp .eql 24 x y yt) ty (.bool r):=by
 subst hr;exact yJ (hx:=hx) (hy:=hy) (ha:=ha) (hb:=hb)
end
section
variable (p q g h:Nat)
theorem di (l:LN) (pz:Option Addr) (c:Nat) (hl:∀ a∈l,a<zd) (hn:l.length≤1099511627776) (hq:q<zd) :
  Fn Tryz.prog 159 [vg p q g h,.slice pz l.length c] (RdF zc (.slice pz l.length c) l) (Is (.bool (l.all fun x=>zR x x q))):=by
 refine Fn.enter Tryz.func159 rfl rfl rfl ?_;intro w hw
 repeat (first|refine Tk ?_|intro _|exact Tz)
 rename_i gG;refine WC.loopI (σ:=Nat) (fun i=>i≤l.length∧∀ j,j<i→∀ x,l[j]?=some x→zR x x q=true) (fun i=>[(2,pt gG),(9,.slice pz l.length c),(10,.int .i64 (l.length:Int)),(11,.int .i64 (i:Int))]) (fun _=>[⟨gG,26,yu p q g h⟩]) (fun i=>l.length - i) 0 (fun i hi=>?_) ⟨Nat.zero_le _,fun j hj=>by omega⟩
 try dsimp only at hi ⊢
 obtain⟨hi,h0⟩:=hi
 by_cases hlt:i<l.length
 ·obtain⟨x,hx⟩ : ∃ x,l[i]?=some x:=⟨_,List.getElem?_eq_getElem hlt⟩;obtain⟨b,o,rfl,_,hs⟩:=hw.get hx;have hadd2:IntKind.i64.wrap ((i:Int)+1)=((i+1:Nat):Int):=zo Om Om Om;have hcx:cut (l.flatMap zc) (o+i*4 - o) 4=zc x:=by rw[Nat.add_sub_cancel_left];exact zB zL hx
  have hxb:=hl x (List.mem_of_getElem? hx);have hA:=qI p q g h x x hxb hxb hq;cases hm:zR x x q with
  | true =>
   rw[hm] at hA
   repeat (first|refine Tk ?_|intro _|exact Tz)
   refine WC.dT rfl Om ?_
   repeat (first|refine Tj ?_|intro _|refine WO.does (zb (o':=o+i*4) rfl rfl hlt rfl) ?_|refine WO.does (zk (vs:=zc x) (hs:=hs) (hle:=Nat.le_add_right _ _) (hc:=hcx)) ?_|refine WO.acall (hc:=hA) (k:=?_)|refine WO.does (zt rfl rfl rfl) ?_|refine WO.does (ze rfl rfl hadd2) ?_|refine Tc ?_|exact Tz)
   refine WX.metI (i+1) (hs:=⟨⟨by show i+1≤l.length;omega,fun j hj y hy=>by
    rcases Nat.lt_or_ge j i with h|h
    ·exact h0 j h y hy
    ·have:j=i:=by omega
     subst this;rw[hx] at hy;cases hy;exact hm⟩,by show l.length - (i+1)<l.length - i;omega⟩)
  | false =>
   rw[hm] at hA;rw[aa hx hm]
   repeat (first|refine Tk ?_|intro _|exact Tz)
   refine WC.dT rfl Om ?_
   repeat (first|refine Tj ?_|intro _|refine WO.does (zb (o':=o+i*4) rfl rfl hlt rfl) ?_|refine WO.does (zk (vs:=zc x) (hs:=hs) (hle:=Nat.le_add_right _ _) (hc:=hcx)) ?_|refine WO.acall (hc:=hA) (k:=?_)|refine WO.does (zZ rfl rfl Dt) ?_|refine Tc ?_|exact Tz)
   done
 ·have hi2:i=l.length:=by omega
  rw[abK (P:=fun x=>zR x x q) (by rw[← hi2];exact h0)]
  repeat (first|refine Tk ?_|intro _|exact Tz)
  refine WC.dF rfl Om ?_
  repeat (first|refine Tk ?_|intro _|exact Tz)
  done
def eO (q key r:Nat) (H:LN):Nat:=nF q (zY ab3) [be 32 key,be 32 r,H]
theorem j5 (key r gG gK gH:Nat) (H:LN) (hq:q<zd) (h0:0<q) (hH:∀ b∈H,b<256) (hl:H.length=32) :
  Fn Tryz.prog 203 ([zj r]++[pt gG,pt gK,pt gH]) (fun w=>Seg w gG 0 (yu p q g h)∧Seg w gK 0 (zc key)∧Seg w gH 0 (byC H)) (Is (zj (eO q key r H))):=by
 have hP:=fun x=>y9 [] x 0 none Dt;have hbl:∀ x,(be 32 x).length=32:=fun x=>zm _ _;simp only[List.nil_append,hbl] at hP;have hP1:=hP key;have hP2:=hP r;clear hP;have hN:=fun g3 g5 gR=>sT q ab3 [AX g3 32 32,AX g5 32 32,AX gH 32 32] [be 32 key,be 32 r,H] gR 0 3 hq h0 (by
  intro X hX;simp only[List.mem_cons,List.not_mem_nil,or_false] at hX
  rcases hX with rfl|rfl|rfl
  ·exact um
  ·exact um
  ·exact hH) (by
  simp only[yH,uQ,yU,List.flatMap_cons,List.flatMap_nil,List.length_append,zm,ym,List.length_nil,hl];decide) Dt
 rw[show nF q (zY ab3) [be 32 key,be 32 r,H]=eO q key r H from rfl] at hN;generalize eO q key r H=R at *;have hbH:(byC H).length=32:=by rw[zh,hl]
 have hrk:=hbl key;have hrr:=hbl r;clear hbl;refine Fn.enter Tryz.func203 rfl rfl rfl ?_;intro w hw;obtain⟨wG,wK,wH⟩:=hw
 repeat (first|refine Tk ?_|intro _|exact Tz)
 refine WC.adrawF [11] 13 (k:=?_);refine DQ.auto (k:=?_);refine DQ.does (fun s _=>zk (hs:=wG) (hle:=Nat.zero_le _) (vs:=zc q)) Dp.const ?_;refine DQ.does (fun s _=>zk (hs:=wK) (hle:=Nat.le_refl _) (vs:=zc key)) Dp.const ?_;refine DQ.acallS (hc:=hP1) (hR:=fun _=>Rd.nil) (k:=?_);refine DQ.auto (k:=?_);refine DQ.acallS (hc:=hP2) (hR:=fun _=>Rd.nil) (k:=?_);refine DQ.does (v:=fun _=>AX gH 32 32) (fun s _=>yL rfl) Dp.const ?_;refine DQ.makes (vf:=fun _ g=>AX g 3 3) (t:=126) (cs:=fun s=>[AX (s 3 0) 32 32,AX (s 5 0) 32 32,AX gH 32 32]) (fun s _=>zi rfl Dt rfl) Dp.const (by intro s s' h;dsimp only;rw[h,h]<;>decide +kernel) ?_
 refine DQ.callE (v:=fun _=>.tuple #[zj R,.int .i64 0]) (fun s=>[⟨s 7 0,126,[AX (s 3 0) 32 32,AX (s 5 0) 32 32,AX gH 32 32]⟩,⟨s 5 0,5,byC (be 32 r)⟩,⟨s 3 0,5,byC (be 32 key)⟩])
  (fun s=>.cons 7 (.head _) Dkk (.cons 5 Mh.a Dkk (.cons 3 Mh.a Dkk .nil))) (fun s _=>hN (s 3 0) (s 5 0) (s 7 0)) (fun s=>rfl)
  (fun s hC w hm=>⟨Hs.seg Hs.here hm,z7.cons (by have:=RdP.own0 (g:=s 3 0) (c:=32) (X:=be 32 key) (t:=5) hm (Hs.there (Hs.there Hs.here)) Om Dt;rw[hrk] at this;exact this) (z7.cons (by have:=RdP.own0 (g:=s 5 0) (c:=32) (X:=be 32 r) (t:=5) hm (Hs.there Hs.here) Om Dt;rw[hrr] at this;exact this)
   (z7.cons ⟨some ⟨gH,0,none⟩,32,by rw[hl],by omega,by decide,.inr ⟨gH,0,rfl,by
    have h1:(byC H)[0]?=some (.int .u8 ((H[0]' Om:Nat):Int)):=jc Om;exact jw ((wH.mod hm.mod Sm) 0 _ h1),wH.mod hm.mod Sm⟩⟩ z7.nil))⟩) Dp.const ?_
 repeat (first|refine Da ?_|refine Df ?_)
 refine DQ.anil (k:=?_);intro sx _
 repeat (first|refine Tk ?_|intro _|exact Tz)
 done
end
section
variable (p q g h:Nat)
theorem au (key:Nat) (H:LN) (hl:H.length=32) :
  Fn Tryz.prog 160 [vg p q g h,zj key,.agg (byC H).toArray] Tr
   (Ex (fun x=>.func (.func 203) #[] #[pt (x 0),pt (x 1),pt (x 2)]) (fun x=>[⟨x 2,70,byC H⟩,⟨x 1,24,zc key⟩,⟨x 0,26,yu p q g h⟩]) (fun _=>True)):=by
 have hbH:(byC H).length=32:=by rw[zh,hl]
 refine Fn.enter Tryz.func160 rfl rfl rfl ?_;intro w hw
 repeat (first|refine Tj ?_|intro _|refine WO.does (zH rfl rfl) ?_|refine Tc ?_|exact Tz)
 rename_i g3 g4 g5;exact WX.ret1 rfl Rv.t [⟨g5,70,byC H⟩,⟨g4,24,zc key⟩,⟨g3,26,yu p q g h⟩] (by repeat (first|exact Lle.nil|refine Lle.c ?_)) ⟨fun i=>if i=0 then g3 else if i=1 then g4 else g5,rfl,rfl,trivial⟩
theorem aeP (x d c S:Nat) (H:LN) (hp:p<zd) (hq:q<zd) (hg:g<zd) (hx:x<zd) (hd:d<zd) (hl:H.length=32) (hB:sgB p q g x d=false) :
  Fn Tryz.prog 146 [vg p q g h,zj x,.agg (byC H).toArray,zj d] Tr (Is (prV false c S)):=by
 have hE:=vd p q g h g x hg hx hp;have hX:=fun b=>di p q g h [x,d] (some ⟨b,0,none⟩) 2 (by intro a ha;simp only[List.mem_cons,List.not_mem_nil,or_false] at ha;rcases ha with rfl|rfl<;>assumption) (by show 2≤1099511627776;omega) hq;have hbH:(byC H).length=32:=by rw[zh,hl]
 unfold sgB at hB;cases e1:yw p g with
 | false =>
  rw[e1] at hE;refine Fn.enter Tryz.func146 rfl rfl rfl ?_;intro w hw
  repeat (first|refine Tj ?_|intro _|refine WO.acall (hc:=hE) (k:=?_)|refine WO.does (zZ rfl rfl Dt) ?_|refine Tc ?_|exact Tz)
  done
 | true =>
 rw[e1] at hE hB;generalize g ^ x%p=y at *;cases e2:decide (x=0) with
 | true =>
  refine Fn.enter Tryz.func146 rfl rfl rfl ?_;intro w hw
  repeat (first|refine Tj ?_|intro _|refine WO.acall (hc:=hE) (k:=?_)|refine WO.does (zt rfl rfl rfl) ?_|refine WO.does (zx rfl rfl hx zG e2) ?_|refine Tc ?_|exact Tz)
  done
 | false =>
 cases e3:decide (d=0) with
 | true =>
  refine Fn.enter Tryz.func146 rfl rfl rfl ?_;intro w hw
  repeat (first|refine Tj ?_|intro _|refine WO.acall (hc:=hE) (k:=?_)|refine WO.does (zt rfl rfl rfl) ?_|refine WO.does (zx rfl rfl hx zG e2) ?_|refine WO.does (zx rfl rfl hd zG e3) ?_|refine Tc ?_|exact Tz)
  done
 | false =>
 have e4:([x,d].all fun x=>zR x x q)=false:=by
  simp at e2 e3;simpa [e2,e3] using hB
 rw[e4] at hX;refine Fn.enter Tryz.func146 rfl rfl rfl ?_;intro w hw
 repeat (first|refine Tj ?_|intro _|refine WO.acall (hc:=hE) (k:=?_)|refine WO.does (zt rfl rfl rfl) ?_|refine WO.does (zx rfl rfl hx zG e2) ?_|refine WO.does (zx rfl rfl hd zG e3) ?_|(refine WO.makes (zi (cs:=zc x++zc d) rfl Dt rfl) ?_;intro _)|refine WO.acallR (hc:=hX _) (hR:=fun w1 hm=>RdF.seg (f:=zc) (xs:=[x,d]) (r:=[]) (Hs.sg hm)) (k:=?_)|refine Tc ?_|exact Tz)
 done
theorem aer (x d c:Nat) (H:LN) (hp:p<zd) (hq:q<zd) (hg:g<zd) (hx:x<zd) (hd:d<zd) (hH:∀ b∈H,b<256) (hl:H.length=32) (hB:sgB p q g x d=true) (hc:sgC p q g x d H=c) :
  Fn Tryz.prog 146 [vg p q g h,zj x,.agg (byC H).toArray,zj d] Tr (Is (prV true c ((d+x*c%q)%q))):=by
 have hE1:=vd p q g h g x hg hx hp;have hE2:=vd p q g h g d hg hd hp;have hX:=fun b=>di p q g h [x,d] (some ⟨b,0,none⟩) 2 (by intro a ha;simp only[List.mem_cons,List.not_mem_nil,or_false] at ha;rcases ha with rfl|rfl<;>assumption) (by show 2≤1099511627776;omega) hq;have hbH:(byC H).length=32:=by rw[zh,hl]
 unfold sgB at hB;simp only[Bool.and_eq_true,decide_eq_true_eq] at hB;obtain⟨⟨⟨⟨e1,e2⟩,e3⟩,e4⟩,e5⟩:=hB;rw[e1] at hE1 hE2;have d4:decide (x=0)=false:=decide_eq_false e4;have d5:decide (d=0)=false:=decide_eq_false e5;rw[show ([x,d].all fun x=>zR x x q)=true by simp[e2,e3]] at hX;have hq1:=(zN e2).1;have hxq:=(zN e2).2.1;have hdq:=(zN e3).2.1;have hcl:c<q:=by rw[← hc];exact vC Om _ _
 have hCh:=fun gG gK gH=>j5 p q g h (g ^ x%p) (g ^ d%p) gG gK gH H hq Om hH hl;rw[show eO q (g ^ x%p) (g ^ d%p) H=c from hc] at hCh;have hM:=iy p q g h x c hx (Nat.lt_trans hcl hq) hq;rw[show zR x c q=true by simp[zR,hq1,hxq,hcl]] at hM;have hml:x*c%q<q:=Nat.mod_lt _ Om;have hA:=qI p q g h d (x*c%q) hd (Nat.lt_trans hml hq) hq;rw[show zR d (x*c%q) q=true by simp[zR,hq1,hdq,hml]] at hA;have hS:=au p q g h (g ^ x%p) H hl;clear hc;generalize (d+x*c%q)%q=S at *;generalize x*c%q=M at *;generalize g ^ x%p=P1 at *;generalize g ^ d%p=P2 at *;refine Fn.enter Tryz.func146 rfl rfl rfl ?_;intro w hw
 repeat (first|refine Tj ?_|intro _|refine WO.acall (hc:=hE1) (k:=?_)|refine WO.acall (hc:=hE2) (k:=?_)|refine WO.does (zt rfl rfl rfl) ?_|refine WO.does (zx rfl rfl hx zG d4) ?_|refine WO.does (zx rfl rfl hd zG d5) ?_|(refine WO.makes (zi (cs:=zc x++zc d) rfl Dt rfl) ?_;intro _)|refine WO.acallR (hc:=hX _) (hR:=fun w1 hm=>RdF.seg (f:=zc) (xs:=[x,d]) (r:=[]) (Hs.sg hm)) (k:=?_)|refine Tc ?_|exact Tz)
 refine WC.adraw 7 (k:=?_)
 iterate 2 (refine DQ.auto (k:=?_))
 refine DQ.does (fun s _=>zE (vs:=byC H) (hc:=ye hbH) (hl:=hbH)) Dp.const ?_
 refine DQ.callsE (fs:=fun _=>[]) (cs:=fun _=>[]) (R:=fun _=>Tr) (vf:=fun _ x=>.func (.func 203) #[] #[pt (x 0),pt (x 1),pt (x 2)]) (Nf:=fun _ x=>[⟨x 2,70,byC H⟩,⟨x 1,24,zc P1⟩,⟨x 0,26,yu p q g h⟩]) (S:=fun _ _=>True) (fun _=>[]) (fun _=>.nil)
  (fun _=>⟨fun _=>0,trivial⟩) (fun _ _=>hS) (fun _=>rfl) (fun _=>rfl) (fun _=>rfl) (fun _ _ w hm=>trivial) Dp.const Dp.const Dp.const ?_
 try dsimp only[List.map_cons,List.map_nil,List.cons_append,List.nil_append]
 refine DQ.auto (k:=?_)
 refine DQ.callsE (fs:=fun _=>[]) (cs:=fun s=>[pt (s 3 0),pt (s 3 1),pt (s 3 2)]) (R:=fun s w=>Seg w (s 3 0) 0 (yu p q g h)∧Seg w (s 3 1) 0 (zc P1)∧Seg w (s 3 2) 0 (byC H)) (vf:=fun _ _=>zj c) (Nf:=fun _ _=>[]) (S:=fun _ _=>True) (fun s=>[⟨s 3 2,70,byC H⟩,⟨s 3 1,24,zc P1⟩,⟨s 3 0,26,yu p q g h⟩])
  (fun s=>.cons 3 Mh.a Dkk (.cons 3 Mh.a Dkk (.cons 3 Mh.a Dkk .nil)))
  (fun _=>⟨fun _=>0,trivial⟩) (fun s _=>(hCh (s 3 0) (s 3 1) (s 3 2)).ex) (fun _=>rfl) (fun _=>rfl) (fun _=>rfl) (fun s _ w hm=>⟨Hs.seg (.there (.there .here)) hm,Hs.seg (.there .here) hm,Hs.seg .here hm⟩) Dp.const Dp.const Dp.const ?_
 try dsimp only[List.map_cons,List.map_nil,List.cons_append,List.nil_append]
 refine DQ.autoM (k:=?_);refine DQ.anil (k:=?_);intro sx _;generalize sx 6 0=gC
 repeat (first|refine Tj ?_|intro _|refine WO.acall (hc:=hM) (k:=?_)|refine WO.acall (hc:=hA) (k:=?_)|refine Tc ?_|exact Tz)
 done
theorem agf (x d:Nat) (H:LN) (hp:p<zd) (hq:q<zd) (hg:g<zd) (hx:x<zd) (hd:d<zd) (hH:∀ b∈H,b<256) (hl:H.length=32) :
  Fn Tryz.prog 146 [vg p q g h,zj x,.agg (byC H).toArray,zj d] Tr (Is (prV (sgB p q g x d) (sgC p q g x d H) ((d+x*sgC p q g x d H%q)%q))):=by
 generalize hc:sgC p q g x d H=c;cases hB:sgB p q g x d with
 | false=>exact aeP p q g h x d c _ H hp hq hg hx hd hl hB
 | true=>exact aer p q g h x d c H hp hq hg hx hd hH hl hB hc
end
theorem RdF.modG {α:Type} {f:α→List Value} {pt:Option Addr} {n c:Nat} {xs:List α} {w w' : World} {gs:LN} (h:RdF f (.slice pt n c) xs w) (hm:Mod gs w w') (hb:∀ b o,pt=some ⟨b,o,none⟩→xs≠[]→b ∉ gs):RdF f (.slice pt n c) xs w':=by
 obtain⟨pt',c',e,h⟩:=h;cases e
 by_cases hx:xs=[]
 ·refine⟨_,_,rfl,?_⟩
  rcases h with h|⟨b,o,e,hs⟩
  ·exact .inl h
  ·exact .inr ⟨b,o,e,by subst hx;intro i v hv;simp at hv⟩
 ·refine⟨_,_,rfl,h.imp id (fun ⟨b,o,e,hs⟩=>⟨b,o,e,hs.mod hm (hb b o e hx)⟩)⟩
theorem ma (g c n:Nat):∃ pt c',nrV g c n n=.slice pt n c'∧((n=0∧pt=none)∨pt=some ⟨g,0,none⟩):=by
 cases n with
 | zero=>exact⟨none,0,rfl,.inl ⟨rfl,rfl⟩⟩
 | succ n=>exact⟨_,c,rfl,.inr rfl⟩
theorem oI {g:Nat} {D:LN} {r:LV} (h:D≠[]):nrL g D r D.length=[⟨g,24,D.flatMap zc++r⟩]:=by
 cases D with
 | nil=>exact absurd rfl h
 | cons a l=>rfl
theorem agd {w0 w:World} {gs:LN} {L:List Ent} {gD cD' : Nat} {ptD:Option Addr} {D:LN} {rD:LV} {gF:Nat} (hm:Mr w0 gs L w) (hpt:(D.length=0∧ptD=none)∨ptD=some ⟨gD,0,none⟩) (hL:D≠[]→Hs L gD 24 (D.flatMap zc++rD)) (hne:D≠[]→gD ∉ [gF]) :
  RdF zc (.slice ptD D.length cD') D w∧∀ b o,ptD=some ⟨b,o,none⟩→D≠[]→b ∉ [gF]:=by
 by_cases hD:D=[]
 ·subst hD;refine⟨⟨ptD,cD',rfl,?_⟩,fun b o _ h=>absurd rfl h⟩
  rcases hpt with ⟨_,h⟩|h
  ·exact .inl ⟨h,rfl⟩
  ·exact .inr ⟨gD,0,h,fun i v hv=>by simp at hv⟩
 ·have hp2:ptD=some ⟨gD,0,none⟩:=hpt.resolve_left (fun h=>hD (List.length_eq_zero_iff.1 h.1));subst hp2;refine⟨RdF.seg (r:=rD) (Hs.seg (hL hD) hm),fun b o e _=>?_⟩;cases e;exact hne hD
section
variable (p q g h gF:Nat)
theorem ab2 (l:LN) (pt:Option Addr) (c i li:Nat) (e:Int) (h1:1<q) (hl:∀ y∈l,y<q) (hn:l.length≤1000) (hli:l[i]?=some li) (hq:q<zd) :
  FnM Tryz.prog 255 [Sx.pt gF,.slice pt l.length c,.int .i64 (i:Int)] gF 336 (fdC p q g h e) (fdC p q g h (kE e (iE (prM q 1 (dif q l i li l.length)) q))) (fun w=>RdF zc (.slice pt l.length c) l w∧∀ b o,pt=some ⟨b,o,none⟩→l≠[]→b ∉ [gF])
   (zj (y7 (prM q 1 (dif q l i li l.length)) q)):=by
 have hil:i<l.length:=by
  rcases Nat.lt_or_ge i l.length with h|h
  ·exact h
  ·rw[List.getElem?_eq_none h] at hli;cases hli
 have hlq:=hl li (List.mem_of_getElem? hli);have hOf:=qS p q g h 1 Dt hq;rw[show ofZ q ((1:Nat):Int)=1 by rw[oh q 1 Om,Nat.mod_eq_of_lt h1]] at hOf;have hOth:=mc p q g h gF l pt c i li e h1 hl hlq hn Om hq;have hdl:=adb (q:=q) (l:=l) (i:=i) (x:=li) (k:=l.length) Om;have hdn:=kf (q:=q) (l:=l) (i:=i) (x:=li) (k:=l.length);generalize dif q l i li l.length=D at *;have hGa:=fun pt c=>mP p q g h gF D pt c 1 e h1 h1 hdl Om hq;have hUn:=aaI p q g h gF (prM q 1 D) e h1 (mY Om h1 D) hq;generalize prM q 1 D=M at *;generalize y7 M q=I at *;generalize iE M q=E at *;refine FnM.enter Tryz.func255 rfl rfl rfl ?_;intro w hw;obtain⟨hwl,hout⟩:=hw;obtain⟨b,o,rfl,_,hs⟩:=RdF.get hwl hli;have hb:b ∉ [gF]:=hout b o rfl (by rintro rfl;simp at hli);have hcx:cut (l.flatMap zc) (o+i*4 - o) 4=zc li:=by rw[Nat.add_sub_cancel_left];exact yh (f:=zc) (k:=4) (fun _=>rfl) hli
 repeat (first|refine Tk ?_|intro _|exact Tz)
 rename_i gR;refine WC.mainV [4,5,13,16,17,18] [(0,Sx.pt gF),(1,Sx.pt gF),(2,Sx.pt gF),(3,Sx.pt gF),(6,Sx.pt gF),(7,.slice (some ⟨b,o,none⟩) l.length c),(8,.int .i64 (i:Int)),(9,.slice (some ⟨b,o,none⟩) l.length c),(10,.int .i64 (i:Int)),(11,.pointer (some ⟨b,o+i*4,none⟩)),(12,zj li),(14,Sx.pt gF),(15,.func (.func 230) #[Sx.pt gF] #[])] Dt ?_;refine WT.with [] Kr (Tlv.auto (Tlv.auto (Tlv.auto (Tlv.auto (Tlv.auto (Tlv.auto (Tlv.auto (Tlv.auto (Tlv.auto (Tlv.d rfl (zb (o':=o+i*4) rfl rfl hil rfl) (Tlv.d rfl (zk (vs:=zc li) (hs:=hs) (hle:=Nat.le_add_right _ _) (hb:=hb) (hc:=hcx)) (Tlv.auto (Tlv.auto Tlv.nil))))))))))))) (fun hc hT=>?_)
 refine WT.one (m:=4) rfl hc hT ?_;refine WO.does (zE (vs:=yu p q g h)) ?_;refine WO.nil (WX.wt [(11,vg p q g h)] ?_);refine WT.one (m:=5) rfl hc hT ?_;refine WO.acall (hc:=hOf) (k:=?_);refine WO.nil (WX.wt [(12,zj 1)] ?_);refine WT.one (m:=13) rfl hc hT ?_;refine WO.callsL (hc:=hOth) (hp:=.cons Pk.a .nil) (fun w1 hm=>⟨hwl.modG hm.mod hout,hout⟩) (fun v N hv=>?_);obtain⟨gD,cD,rD,rfl,rfl⟩:=hv;obtain⟨ptD,cD',hv,hpt⟩:=ma gD cD D.length;rw[hv];rw[List.cons_append];refine WO.permL (List.Perm.cons _ List.perm_append_comm) ?_;rw[List.singleton_append];refine WO.nil (WX.wt [(20,.slice ptD D.length cD')] ?_);refine WT.one (m:=16) rfl hc hT ?_ (hl0:=Lle.nil);refine WO.ndp (fun hnd=>?_);refine WO.callM rfl (hGa ptD cD') (by repeat (first|exact Rp.here|apply Rp.there)) (fun w1 hm=>agd hm hpt (fun h=>by rw[oI h];exact .there (.there .here)) (fun h=>by rw[oI h] at hnd;simp at hnd ⊢;exact fun e=>hnd.1.2 e.symm)) Dt ?_ rfl rfl;refine WO.nil (WX.wt [(23,zj M)] ?_);refine WT.one (m:=17) rfl hc hT ?_ (hl0:=Lle.nil);refine WO.callM rfl hUn (by repeat (first|exact Rp.here|apply Rp.there)) (fun _ _=>trivial) Dt ?_ rfl rfl;refine WO.nil (WX.wt [(24,zj I)] ?_);refine WT.one (m:=18) rfl hc hT ?_ (hl0:=Lle.nil);refine WO.autoS (k:=?_);refine WO.nil (WX.wt [] ?_);refine WT.fin [18] 1 hc rfl (by rfl) ?_;clear hc hT
 repeat (first|refine Tk ?_|intro _|exact Tz)
 exact WX.retM_of (d7 rfl v7) .here
end
theorem su (n:Nat) (hn:n<1000):Fn Tryz.prog 241 [.int .i64 (n:Int)] Tr (Is (.int .i64 (-((n+1:Nat):Int)))):=by
 have h1:IntKind.i64.wrap (0 - (n:Int)) = -(n:Int):=by simp[IntKind.wrap,IntKind.signed,IntKind.bits];omega
 have h2:IntKind.i64.wrap (-(n:Int) - 1) = -((n+1:Nat):Int):=by simp[IntKind.wrap,IntKind.signed,IntKind.bits];omega
 refine Fn.enter Tryz.func241 rfl rfl rfl ?_;intro w hw
 repeat (first|refine Tj ?_|intro _|refine WO.does (m8 rfl h1) ?_|refine WO.does (zr rfl rfl h2) ?_|refine Tc ?_|exact Tz)
abbrev aaE:List Value:=[.int .i64 3,.func (.func 241) #[] #[]]
theorem rA:Fn Tryz.prog 204 [] Tr (Is (.agg aaE.toArray)):=by
 refine Fn.enter Tryz.func204 rfl rfl rfl ?_;intro w hw
 repeat (first|refine Tk ?_|intro _|exact Tz)
def scN (q:Nat) (l:LN) (i:Nat):Nat:=zF l (q - (i+1))%q
def scL (q:Nat) (l:LN) (n:Nat):List Nat:=(List.range n).map (scN q l)
theorem afy {f:Nat} [Cal Tryz.prog f] (caps:LV) (x m:Nat) (e:Int) (R:World→Prop) (hst:zM R) (hm:0<m) (hm2:m≤100) (he:e≠0)
  (hf:Fn Tryz.prog f ([.int .i64 0]++caps) R (Is (.tuple #[zj x,.int .i64 e]))) :
  Fn Tryz.prog 208 [.int .i64 (m:Int),.func (.func f) #[] caps.toArray] R (Is (.tuple #[.slice none 0 0,.int .i64 e])):=by
 refine Fn.enter Tryz.func208 rfl rfl rfl ?_;intro w hw
 repeat (first|refine WC.loopU 1 ?_|refine Tj ?_|intro _|(refine WO.makes (zS (l:=0) (c:=m) rfl rfl Om Om Om) ?_;intro g)|refine Tc ?_|exact Tz)
 refine WC.dT rfl Om ?_
 repeat (first|refine Tj ?_|intro _|refine WO.acallV (hc:=hf) (hR:=fun w' hm=>hst _ _ hw hm.mod.below) (k:=?_)|refine WO.does (zZ rfl rfl he) ?_|refine Tc ?_|exact Tz)
 done
section
variable (p q g h:Nat)
theorem fK (l:LN) (pz:Option Addr) (c i gS gG gP:Nat) (hl:∀ a∈l,a<zd) (hn:l.length≤1099511627776) (hq:q<zd) (hb1:v8 q l=true) (hi:i+1<q) (hi2:i<900) :
  Fn Tryz.prog 232 ([.int .i64 (i:Int)]++[pt gG,pt gP,pt gS]) (fun w=>Seg w gG 0 (yu p q g h)∧Seg w gP 0 [.slice pz l.length c]∧Seg w gS 0 aaE∧RdF zc (.slice pz l.length c) l w) (Is (.tuple #[zj (scN q l i),.int .i64 0])):=by
 have h1:=su i Om;have h2:=oC p q g h (i+1) Om Om hi hq;have h3:=m6 p q g h l pz c (q - (i+1)) hl hn hq Om hb1 Om;rw[show zF l (q - (i+1))%q=scN q l i from rfl] at h3;generalize scN q l i=V at *;refine Fn.enter Tryz.func232 rfl rfl rfl ?_;intro w hw;obtain⟨wG,wP,wS,wL⟩:=hw
 repeat (first|refine Tk ?_|intro _|exact Tz)
 refine WC.adraw 11 (k:=?_)
 iterate 11 (first|refine Da ?_|refine DQ.does (fun s _=>zk (hs:=wG) (hle:=Nat.le_refl _) (vs:=yu p q g h)) Dp.const ?_|refine DQ.does (fun s _=>zn (hs:=wP) (hle:=Nat.le_refl _)) Dp.const ?_|refine DQ.does (fun s _=>zn (hs:=wS) (hle:=Nat.zero_le _)) Dp.const ?_|refine DQ.acallV (hc:=h1) (k:=?_)|refine DQ.acall (hc:=h2) (k:=?_)|refine DQ.acallM (hc:=h3) (hR:=fun w hm=>wL.mod hm.mod) (k:=?_)|refine Dc ?_)
 refine DQ.anil (k:=?_);intro sx _
 repeat (first|refine Tk ?_|intro _|exact Tz)
 done
end
section
variable (p q g h:Nat) (l:LN) (pz:Option Addr) (c m:Nat)
theorem dI (hl:∀ a∈l,a<zd) (hn:l.length≤1099511627776) (hq:q<zd) (hb1:v8 q l=true) (h1:1≤m) (hm:m≤3) (hmq:m<q) :
  Fn Tryz.prog 189 [.agg aaE.toArray,vg p q g h,.slice pz l.length c,.int .i64 (m:Int)] (RdF zc (.slice pz l.length c) l)
   (Ex (fun s=>.tuple #[AX (s 0) m m,.int .i64 0]) (fun s=>[⟨s 0,24,(scL q l m).flatMap zc⟩]) (fun _=>True)):=by
 have hC:=fun gS gG gP=>iY (f:=232) [pt gG,pt gP,pt gS] (scN q l) m (fun w=>Seg w gG 0 (yu p q g h)∧Seg w gP 0 [.slice pz l.length c]∧Seg w gS 0 aaE∧RdF zc (.slice pz l.length c) l w)
  (fun w w' ⟨a,b,d,e⟩ hb=>⟨zM.seg w w' a hb,zM.seg w w' b hb,zM.seg w w' d hb,e.mod (.of_below hb _)⟩) Om (fun i hi=>fK p q g h l pz c i gS gG gP hl hn hq hb1 Om Om)
 refine Fn.enter Tryz.func189 rfl rfl rfl ?_;intro w hw
 repeat (first|refine Tj ?_|intro _|refine WO.does (zO rfl rfl Om) ?_|refine WO.does (zH rfl rfl) ?_|refine WO.does (yb rfl rfl Om) ?_|refine Tc ?_|exact Tz)
 repeat (first|refine Tj ?_|intro _|refine WO.does (zH rfl rfl) ?_|refine WO.acallX (hc:=hC _ _ _) (hR:=fun w1 hm=>⟨Hs.sg hm,Hs.sg hm,Hs.sg hm,hw.mod hm.mod⟩) (k:=fun s _=>?_)|refine Tc ?_|exact Tz)
 generalize s 0=g0
 repeat (first|refine Tk ?_|intro _|exact Tz)
 exact WX.ret2 rfl Rv.t Rv.t [⟨g0,24,(scL q l m).flatMap zc⟩] (Lle.c Lle.nil) ⟨fun _=>g0,rfl,rfl,trivial⟩
theorem bm (hl:∀ a∈l,a<zd) (hn:l.length≤1099511627776) (hq:q<zd) (hb1:v8 q l=true) (h1:1≤m) (hm:m≤3) (hmq:m<q) :
  Fn Tryz.prog 163 [vg p q g h,.slice pz l.length c,.int .i64 (m:Int)] (RdF zc (.slice pz l.length c) l)
   (Ex (fun s=>.tuple #[AX (s 0) m m,.int .i64 0]) (fun s=>[⟨s 0,24,(scL q l m).flatMap zc⟩]) (fun _=>True)):=by
 have hV:=dI p q g h l pz c m hl hn hq hb1 h1 hm hmq;have hN:=rA;refine Fn.enter Tryz.func163 rfl rfl rfl ?_;intro w hw
 repeat (first|refine Tk ?_|intro _|exact Tz)
 refine WC.adraw 9 (k:=?_);refine DQ.acall (hc:=hN) (k:=?_)
 iterate 3 (refine DQ.auto (k:=?_))
 refine DQ.callsE (fs:=fun _=>[]) (cs:=fun _=>[]) (R:=fun _=>RdF zc (.slice pz l.length c) l) (vf:=fun _ x=>.tuple #[AX (x 0) m m,.int .i64 0]) (Nf:=fun _ x=>[⟨x 0,24,(scL q l m).flatMap zc⟩]) (S:=fun _ _=>True) (fun _=>[]) (fun _=>.nil)
  (fun _=>⟨fun _=>0,trivial⟩) (fun _ _=>hV) (fun _=>rfl) (fun _=>rfl) (fun _=>by simp) (fun _ _ w hm=>hw.mod hm.mod) Dp.const Dp.const Dp.const ?_
 try dsimp only[List.map_cons,List.map_nil,List.cons_append,List.nil_append]
 iterate 4 (refine DQ.auto (k:=?_))
 refine DQ.anil (k:=?_);intro sx _;generalize sx 4 0=g0
 repeat (first|refine Tk ?_|intro _|exact Tz)
 exact WX.ret2 rfl Rv.t Rv.t [⟨g0,24,(scL q l m).flatMap zc⟩] (Lle.c Lle.nil) ⟨fun _=>g0,rfl,rfl,trivial⟩
end
theorem ek (xs:List (Nat)) (pa pb:Option Addr) (ca cb:Nat) (hn:xs.length≤100) :
  Fn Tryz.prog 38 [.slice pa xs.length ca,.slice pb xs.length cb] (fun w=>RdF zc (.slice pa xs.length ca) xs w∧RdF zc (.slice pb xs.length cb) xs w) (Is (.bool true)):=by
 have d0:decide ((xs.length:Int)≠(xs.length:Int))=false:=decide_eq_false (fun h=>h rfl);refine Fn.enter Tryz.func38 rfl rfl rfl ?_;intro w hw;obtain⟨hwA,hwB⟩:=hw
 repeat (first|refine Tk ?_|intro _|exact Tz)
 rw[d0]
 repeat (first|refine Tk ?_|intro _|exact Tz)
 refine WC.loopI (σ:=Nat) (fun i=>i≤xs.length) (fun i=>[(0,.slice pa xs.length ca),(1,.slice pb xs.length cb),(5,.int .i64 (i:Int))]) (fun i=>[]) (fun i=>xs.length - i) 0 (fun i hi=>?_) (Nat.zero_le _)
 try dsimp only at hi ⊢
 by_cases hlt:i<xs.length
 ·obtain⟨x,hx⟩ : ∃ x,xs[i]?=some x:=⟨_,List.getElem?_eq_getElem hlt⟩;obtain⟨b,o,rfl,_,hs⟩:=hwA.get hx;obtain⟨b2,o2,rfl,_,hs2⟩:=hwB.get hx;have hadd2:IntKind.i64.wrap ((i:Int)+1)=((i+1:Nat):Int):=zo Om Om Om;have hcx:cut (xs.flatMap zc) (o+i*4 - o) 4=zc x:=by rw[Nat.add_sub_cancel_left];exact zB zL hx
  have hcy:cut (xs.flatMap zc) (o2+i*4 - o2) 4=zc x:=by rw[Nat.add_sub_cancel_left];exact zB zL hx
  repeat (first|refine Tk ?_|intro _|exact Tz)
  refine WC.dT rfl Om ?_
  repeat (first|refine Tk ?_|intro _|exact Tz)
  refine WC.adraw 9 (k:=?_)
  iterate 2 (refine DQ.auto (k:=?_))
  refine DQ.does (fun s _=>zb (o':=o+i*4) rfl rfl hlt rfl) Dp.const ?_;refine DQ.does (fun s _=>zk (vs:=zc x) (hs:=hs) (hle:=Nat.le_add_right _ _) (hc:=hcx)) Dp.const ?_
  iterate 2 (refine DQ.auto (k:=?_))
  refine DQ.does (fun s _=>zb (o':=o2+i*4) rfl rfl hlt rfl) Dp.const ?_;refine DQ.does (fun s _=>zk (vs:=zc x) (hs:=hs2) (hle:=Nat.le_add_right _ _) (hc:=hcy)) Dp.const ?_;refine DQ.does (fun s _=>cW rfl rfl (fun w=>acA x w) (fun w=>vX _ _ _ _ _ w)) Dp.const ?_;refine DQ.anil (k:=?_);intro sx _
  repeat (first|refine Tj ?_|intro _|refine WO.does (ze rfl rfl hadd2) ?_|refine Tc ?_|exact Tz)
  exact WX.metI (i+1) (hs:=⟨by show i+1≤xs.length;omega,by show xs.length - (i+1)<xs.length - i;omega⟩)
 ·have hi2:i=xs.length:=by omega
  subst hi2
  repeat (first|refine Tk ?_|intro _|exact Tz)
  refine WC.dF rfl Om ?_
  repeat (first|refine Tk ?_|intro _|exact Tz)
theorem RdF.nilV {α:Type} {f:α→List Value} {w:World} {c:Nat}:RdF f (.slice none 0 c) [] w:=⟨_,_,rfl,.inl ⟨rfl,rfl⟩⟩
theorem RdF.ownO {α:Type} {f:α→List Value} {xs:List α} {r:LV} {w:World} {g n c:Nat} (hs:Seg w g 0 (xs.flatMap f++r)) (hn:xs.length=n):RdF f (AX g n c) xs w:=by
 subst hn;exact RdF.seg hs
end Sx
end
end Go.Proofs.YtiaibpcaloigkaaGreatDoor
