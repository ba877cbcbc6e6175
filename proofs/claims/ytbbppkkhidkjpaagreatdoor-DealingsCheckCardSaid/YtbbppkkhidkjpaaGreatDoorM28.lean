/- Part 28 of the proof. -/
import Derived.Test.YtbbppkkhidkjpaaGreatDoorM15
set_option linter.unusedSimpArgs false
set_option linter.unusedVariables false
set_option maxHeartbeats 8000000
namespace Go.Proofs.YtbbppkkhidkjpaaGreatDoor
section
open Go Go.RowKit
namespace Sx
attribute [local irreducible] DQ DQS WC WO WX wd
theorem nX {a i:Nat} (h:i<16):(dgs 16 a).getD i 0=a / 65536 ^ i%65536:=by rw[List.getD,kL a h];rfl
theorem jZ (a i:Nat):a / 65536 ^ i=65536*(a / 65536 ^ (i+1))+a / 65536 ^ i%65536:=by
 rw[Nat.pow_succ,← Nat.div_div_eq_div_mul];omega
theorem mR {a b m:Nat} (h:a / m<b / m):a<b:=by
 rcases Nat.lt_or_ge a b with h1|h1
 ·exact h1
 ·have:=Nat.div_le_div_right (c:=m) h1;omega
theorem ny (a b:Nat) (ha:a<zb) (hb:b<zb):Fn Tryz.prog 131 [zf a,zf b] Tr (Is (.int .i64 (vG a b))):=by
 have hA:=vP a ha;have hB:=vP b hb;have dA:∀ i,i<16→a / 65536 ^ i=65536*(a / 65536 ^ (i+1))+(dgs 16 a).getD i 0:=fun i hi=>by rw[nX hi];exact jZ a i
 have dB:∀ i,i<16→b / 65536 ^ i=65536*(b / 65536 ^ (i+1))+(dgs 16 b).getD i 0:=fun i hi=>by rw[nX hi];exact jZ b i
 have hlA:=yr 16 a;have hlB:=yr 16 b;have h16:a / 65536 ^ 16=b / 65536 ^ 16:=by rw[Nat.div_eq_of_lt (by rw[zO];exact ha),Nat.div_eq_of_lt (by rw[zO];exact hb)]
 generalize dgs 16 a=D at *;generalize dgs 16 b=E at *;refine Fn.enter Tryz.func131 rfl rfl rfl ?_;intro w hw
 repeat (first|refine Ta ?_|(refine Tm ?_;intro _)|refine WO.acall (hc:=hA) (k:=?_)|refine WO.acall (hc:=hB) (k:=?_)|refine WO.stores (pd (hl:=hlA) (hc:=by rfl)) ?_|refine WO.stores (pd (hl:=hlB) (hc:=by rfl)) ?_|refine Tc ?_|exact Tz)
 rename_i g2 g3 g5 g6;refine WC.loopI (σ:=Nat) (fun j=>j≤16∧a / 65536 ^ j=b / 65536 ^ j) (fun j=>[(5,pt g5),(6,pt g6),(7,.int .i64 ((j:Int) - 1))]) (fun j=>[⟨g5,216,woC D⟩,⟨g6,216,woC E⟩]) (fun j=>j) 16 (fun j hj=>?_) ⟨Nat.le_refl _,h16⟩
 try dsimp only at hj ⊢
 obtain⟨hj,he⟩:=hj;cases j with
 | zero =>
  rw[show vG a b=0 from tK (by simpa using he)]
  repeat (first|refine Tw ?_|(refine Tm ?_;intro _)|exact Tz)
 | succ i =>
  have hi:i<16:=by omega
  have h1:=dA i hi;have h2:=dB i hi;rw[show (((i+1:Nat):Int) - 1)=(i:Int) by omega]
  repeat (first|refine Tw ?_|(refine Tm ?_;intro _)|exact Tz)
  refine WC.adraw 7 (k:=?_)
  repeat (first|refine Da ?_|refine DQ.does (fun s _=>tF (hi:=by omega)) Dp.const ?_|refine Dc ?_)
  refine DQ.anil (k:=?_);intro sx _
  by_cases hlt:((D.getD i 0:Nat):Int)<((E.getD i 0:Nat):Int)
  ·rw[show vG a b = -1 from tJ (mR (m:=65536 ^ i) (by omega))]
   repeat (first|refine Tw ?_|(refine Tm ?_;intro _)|exact Tz)
   refine WC.dT rfl hlt ?_
   repeat (first|refine Tw ?_|(refine Tm ?_;intro _)|exact Tz)
  ·repeat (first|refine Tw ?_|(refine Tm ?_;intro _)|exact Tz)
   refine WC.dF rfl hlt ?_
   repeat (first|refine Tw ?_|(refine Tm ?_;intro _)|exact Tz)
   refine WC.adraw 7 (k:=?_)
   repeat (first|refine Da ?_|refine DQ.does (fun s _=>tF (hi:=by omega)) Dp.const ?_|refine Dc ?_)
   refine DQ.anil (k:=?_);intro sx _
   by_cases hgt:((E.getD i 0:Nat):Int)<((D.getD i 0:Nat):Int)
   ·rw[show vG a b=1 from uL (mR (m:=65536 ^ i) (by omega))]
    repeat (first|refine Tw ?_|(refine Tm ?_;intro _)|exact Tz)
    refine WC.dT rfl hgt ?_
    repeat (first|refine Tw ?_|(refine Tm ?_;intro _)|exact Tz)
   ·repeat (first|refine Tw ?_|(refine Tm ?_;intro _)|exact Tz)
    refine WC.dF rfl hgt ?_
    repeat (first|refine Tw ?_|(refine Tm ?_;intro _)|exact Tz)
    refine WX.metI i (hs:=⟨⟨by omega,by omega⟩,by show i<i+1;omega⟩)
theorem lC {a i:Nat}:a / 65536 ^ (i / 16)%65536 / 2 ^ (i%16)%2=a / 2 ^ i%2:=by
 have e:a / 2 ^ i=a / 65536 ^ (i / 16) / 2 ^ (i%16):=by
  rw[Nat.div_div_eq_div_mul,show (65536:Nat)=2 ^ 16 by decide,← Nat.pow_mul,← Nat.pow_add];congr 2;omega
 rw[e];generalize a / 65536 ^ (i / 16)=x;have hr:i%16<16:=Nat.mod_lt _ (by decide);generalize i%16=r at *
 match r,hr with
 | 0,_|1,_|2,_|3,_|4,_|5,_|6,_|7,_|8,_|9,_|10,_|11,_|12,_|13,_|14,_|15,_=>simp only[Nat.reducePow];omega
 | n+16,h=>omega
theorem dY (a i:Nat) (ha:a<zb) (hi:i<256):Fn Tryz.prog 138 [zf a,.int .i64 (i:Int)] Tr (Is (.int .u64 ((vb a i:Nat):Int))):=by
 have hA:=vP a ha;have hlA:=yr 16 a;have hd:(dgs 16 a).getD (i / 16) 0 / 2 ^ (i%16)%2=vb a i:=by rw[nX (by omega),lC];rfl
 have hR:vb a i<2:=Nat.mod_lt _ (by decide);generalize vb a i=R at *;have hcv:IntKind.u64.wrap (R:Int)=(R:Int):=u64_in (by omega) (by omega);generalize dgs 16 a=D at *;have hq:=ra i 16 (by omega);have hr:=yP i 16;have hs:=nA (D.getD (i / 16) 0) (i%16) (by omega);have hr2:=yP (D.getD (i / 16) 0 / 2 ^ (i%16)) 2;rw[hd] at hr2;refine Fn.enter Tryz.func138 rfl rfl rfl ?_;intro w hw;have h1:decide ((i:Int)<0)=false:=by simp
 have h2:decide ((255:Int)<(i:Int))=false:=by simp;omega
 repeat (first|refine Tw ?_|(refine Tm ?_;intro _)|exact Tz)
 rw[h1]
 repeat (first|refine Tw ?_|(refine Tm ?_;intro _)|exact Tz)
 rw[h2]
 repeat (first|refine Ta ?_|(refine Tm ?_;intro _)|refine WO.acall (hc:=hA) (k:=?_)|refine WO.stores (pd (hl:=hlA) (hc:=by rfl)) ?_|refine WO.does (yy rfl rfl (by decide) hq) ?_|refine WO.does (tF (hi:=by omega)) ?_|refine Tc ?_|exact Tz)
 refine WO.does (zP rfl rfl (by decide) hr) ?_;refine WO.does (yW rfl rfl (by omega) hs) ?_;refine WO.does (zP rfl rfl (by decide) hr2) ?_
 repeat (first|refine Ta ?_|(refine Tm ?_;intro _)|refine WO.does (zu rfl hcv) ?_|refine Tc ?_|exact Tz)
theorem aas (a:Nat) (ha:a<zb):Fn Tryz.prog 136 [zf a] Tr (Is (.int .i64 ((zE a:Nat):Int))):=by
 have hB:=fun i (hi:i<256)=>dY a i ha hi;have h256:a<2 ^ 256:=by simpa [zb] using ha
 refine Fn.enter Tryz.func136 rfl rfl rfl ?_;intro w hw
 repeat (first|refine Tw ?_|(refine Tm ?_;intro _)|exact Tz)
 rename_i g1;refine WC.loopI (σ:=Nat) (fun j=>j≤256∧a<2 ^ j) (fun j=>[(1,pt g1),(3,.int .i64 ((j:Int) - 1))]) (fun j=>[⟨g1,24,zc a⟩]) (fun j=>j) 256 (fun j hj=>?_) ⟨Nat.le_refl _,h256⟩
 try dsimp only at hj ⊢
 obtain⟨hj,he⟩:=hj;cases j with
 | zero =>
  have:a=0:=by simpa using he
  subst this;rw[fk]
  repeat (first|refine Tw ?_|(refine Tm ?_;intro _)|exact Tz)
 | succ i =>
  have h1:=hB i (by omega);rw[show (((i+1:Nat):Int) - 1)=(i:Int) by omega]
  rcases uk a i with e|e
  ·rw[e] at h1;have:a<2 ^ i:=by
    unfold vb at e
    rcases Nat.lt_or_ge a (2 ^ i) with h|h
    ·exact h
    ·have h2:0<a / 2 ^ i:=Nat.div_pos h (Nat.two_pow_pos i);have h3:a / 2 ^ i<2:=by rw[Nat.div_lt_iff_lt_mul (Nat.two_pow_pos i)];rw[Nat.pow_succ] at he;omega
     omega
   repeat (first|refine Ta ?_|(refine Tm ?_;intro _)|refine WO.acall (hc:=h1) (k:=?_)|refine Tc ?_|exact Tz)
   refine WX.metI i (hs:=⟨⟨by omega,this⟩,by show i<i+1;omega⟩)
  ·rw[e] at h1;have:zE a=i+1:=by
    unfold vb at e;refine tc (by omega) ?_ he;rw[Nat.add_sub_cancel]
    rcases Nat.lt_or_ge a (2 ^ i) with h|h
    ·rw[Nat.div_eq_of_lt h] at e;simp at e
    ·exact h
   rw[this]
   repeat (first|refine Ta ?_|(refine Tm ?_;intro _)|refine WO.acall (hc:=h1) (k:=?_)|refine WO.does (kH (hr:=by exact zl (by omega) (by omega) (by rfl))) ?_|refine Tc ?_|exact Tz)
theorem si {x:List Nat} {i v:Nat} (h:i<x.length):yL ((x.set i v).take (i+1))=yL (x.take i)+65536 ^ i*v:=by
 rw[yk (by simpa using h),List.take_set_of_le (Nat.le_refl i)];simp[List.getD,h]
theorem sJ {x:List Nat} {i v:Nat}:(x.set i v).drop (i+1)=x.drop (i+1):=by rw[List.drop_set_of_lt (by omega)]
theorem getD_drop {x X:List Nat} {i:Nat} (h:x.drop i=X.drop i):x.getD i 0=X.getD i 0:=by
 have h1:(x.drop i)[0]?=(X.drop i)[0]?:=by rw[h]
 simp only[List.getElem?_drop,Nat.add_zero] at h1;simp only[List.getD,h1]
theorem rT {x X:List Nat} {i:Nat} (h:x.drop i=X.drop i):x.drop (i+1)=X.drop (i+1):=by
 rw[← List.drop_drop,← List.drop_drop,h]
theorem tx {x:List Nat} {i v m:Nat} (h:∀ d∈x,d<m) (hv:v<m):∀ d∈x.set i v,d<m:=fun d hd=>by
 rcases List.mem_or_eq_of_mem_set hd with h1|h1
 ·exact h d h1
 ·omega
theorem vD {x:List Nat} {n:Nat} (h:x.length=n):yL (x.take n)=yL x:=by rw[List.take_of_length_le (by omega)]
theorem rk {l:List Nat} {m:Nat} (h:∀ x∈l,x<m) (hm:0<m) (i:Nat):l.getD i 0<m:=by
 unfold List.getD;cases e:l[i]? with
 | none=>exact hm
 | some x=>exact h x (List.mem_of_getElem? e)
structure dJ (X Y x:List Nat) (i c:Nat):Prop where
 len:x.length=16
 lt:∀ d∈x,d<65536
 rest:x.drop i=X.drop i
 sum:yL (x.take i)+65536 ^ i*c=yL (X.take i)+yL (Y.take i)
 one:c≤1
theorem dJ.step {X Y x:List Nat} {i c:Nat} (h:dJ X Y x i c) (hi:i<16) (hX:X.length=16) (hY:Y.length=16) (hYl:∀ d∈Y,d<65536) :
  dJ X Y (x.set i ((x.getD i 0+Y.getD i 0+c)%65536)) (i+1) ((x.getD i 0+Y.getD i 0+c) / 65536):=by
 have hx:=rk h.lt (by decide) i;have hy:=rk hYl (by decide) i;have h1:=h.one;refine⟨by simpa using h.len,tx h.lt (Nat.mod_lt _ (by decide)),by rw[sJ];exact rT h.rest,?_,by omega⟩;have:=h.len;rw[si (by omega),yk (by omega),yk (by omega),← getD_drop h.rest,Nat.pow_succ];have hs:=h.sum;generalize x.getD i 0=u at *;generalize Y.getD i 0=v at *;generalize 65536 ^ i=P at *;have e:u+v+c=65536*((u+v+c) / 65536)+(u+v+c)%65536:=(Nat.div_add_mod _ _).symm;generalize (u+v+c) / 65536=q at *;generalize (u+v+c)%65536=r at *;have e2:P*(u+v+c)=P*(65536*q+r):=by rw[e]
 rw[Nat.mul_add,Nat.mul_add,Nat.mul_add] at e2;rw[← Nat.mul_assoc] at e2;omega
theorem az (a b:Nat) (ha:a<zb) (hb:b<zb):Fn Tryz.prog 189 [zf a,zf b] Tr (Is (.tuple #[zf ((a+b)%zb),.int .u64 (((a+b) / zb:Nat):Int)])):=by
 have hA:=vP a ha;have hB:=vP b hb;have hlA:=yr 16 a;have hlB:=yr 16 b;have hltA:=pg 16 a;have hltB:=pg 16 b;have hvA:yL (dgs 16 a)=a:=by rw[uO,zO,Nat.mod_eq_of_lt ha]
 have hvB:yL (dgs 16 b)=b:=by rw[uO,zO,Nat.mod_eq_of_lt hb]
 have hO:=fun l g hl hlt=>aec l g 0 16 hl hlt;generalize dgs 16 a=X at *;generalize dgs 16 b=Y at *;have h0:dJ X Y X 0 0:=⟨hlA,hltA,rfl,by simp[yL],by decide⟩;refine Fn.enter Tryz.func189 rfl rfl rfl ?_;intro w hw
 repeat (first|refine Ta ?_|(refine Tm ?_;intro _)|refine WO.acall (hc:=hA) (k:=?_)|refine WO.acall (hc:=hB) (k:=?_)|refine WO.stores (pd (hl:=hlA) (hc:=by rfl)) ?_|refine WO.stores (pd (hl:=hlB) (hc:=by rfl)) ?_|refine Tc ?_|exact Tz)
 rename_i g2 g3 g4 g6 g7;refine WC.loopI (σ:=Nat × List Nat × Nat) (fun s=>s.1≤16∧dJ X Y s.2.1 s.1 s.2.2) (fun s=>[(4,pt g4),(6,pt g6),(7,pt g7),(8,.int .u64 (s.2.2:Int)),(9,.int .i64 (s.1:Int))]) (fun s=>[⟨g4,24,zc 0⟩,⟨g6,216,woC s.2.1⟩,⟨g7,216,woC Y⟩]) (fun s=>16 - s.1) (0,X,0) (fun s hs=>?_) ⟨Nat.zero_le _,h0⟩;obtain⟨i,x,c⟩:=s;obtain⟨hi,hS⟩:=hs;dsimp only at hi hS ⊢;have hlx:=hS.len;have hc1:=hS.one
 by_cases hlt:i<16
 ·have hn:=hS.step hlt hlA hlB hltB;have hux:=rk hS.lt (by decide) i;have huy:=rk hltB (by decide) i;have a1:=uy (x.getD i 0) (Y.getD i 0) (by omega);have a2:=uy (x.getD i 0+Y.getD i 0) c (by omega);have r1:=yP (x.getD i 0+Y.getD i 0+c) 65536;have q1:=qT (x.getD i 0+Y.getD i 0+c) 65536 (by omega)
  repeat (first|refine Tw ?_|(refine Tm ?_;intro _)|exact Tz)
  refine WC.dT rfl (by omega) ?_
  repeat (first|refine Tw ?_|(refine Tm ?_;intro _)|exact Tz)
  refine WC.adraw 10 (k:=?_)
  repeat (first|refine Da ?_|refine DQ.does (fun s _=>tF (hi:=by omega)) Dp.const ?_|refine DQ.does (fun s _=>zh rfl rfl a1) Dp.const ?_|refine DQ.does (fun s _=>zh rfl rfl a2) Dp.const ?_|refine Dc ?_)
  refine DQ.anil (k:=?_);intro sx _
  repeat (first|refine Ta ?_|(refine Tm ?_;intro _)|refine WO.does (zP rfl rfl (by decide) r1) ?_|refine WO.stores (sh (hi:=by omega)) ?_|refine WO.does (yy rfl rfl (by decide) q1) ?_|refine Tc ?_|exact Tz)
  refine WX.metI (i+1,x.set i ((x.getD i 0+Y.getD i 0+c)%65536),(x.getD i 0+Y.getD i 0+c) / 65536) (hs:=⟨⟨by show i+1≤16;omega,hn⟩,by show 16 - (i+1)<16 - i;omega⟩)
 ·have hi16:i=16:=by omega
  have hsum:=hS.sum;rw[hi16,vD hlx,vD hlA,vD hlB,zO,hvA,hvB] at hsum;have hxl:=nc hS.lt;rw[hlx,zO] at hxl;have e1:(a+b)%zb=yL x:=by rw[← hsum,Nat.add_mul_mod_self_left,Nat.mod_eq_of_lt hxl]
  have e2:(a+b) / zb=c:=by rw[← hsum,Nat.add_mul_div_left _ _ zq,Nat.div_eq_of_lt hxl,Nat.zero_add]
  rw[e1,e2];have hxo:=fun g=>hO x g hlx hS.lt;generalize yL x=R at *
  repeat (first|refine Tw ?_|(refine Tm ?_;intro _)|exact Tz)
  refine WC.dF rfl (by omega) ?_
  repeat (first|refine Ta ?_|(refine Tm ?_;intro _)|refine WO.does (yx rfl) ?_|refine WO.acallR (hc:=hxo _) (hR:=fun w' hm=>Hs.sg hm) (k:=?_)|refine Tc ?_|exact Tz)
structure cm (X Y x:List Nat) (i c:Nat):Prop where
 len:x.length=16
 lt:∀ d∈x,d<65536
 rest:x.drop i=X.drop i
 sum:yL (x.take i)+yL (Y.take i)=yL (X.take i)+65536 ^ i*c
 one:c≤1
theorem cm.step {X Y x:List Nat} {i c:Nat} (h:cm X Y x i c) (hi:i<16) (hX:X.length=16) (hY:Y.length=16) (hYl:∀ d∈Y,d<65536) :
  cm X Y (x.set i ((x.getD i 0+65536 - Y.getD i 0 - c)%65536)) (i+1) (1 - (x.getD i 0+65536 - Y.getD i 0 - c) / 65536):=by
 have hx:=rk h.lt (by decide) i;have hy:=rk hYl (by decide) i;have h1:=h.one;refine⟨by simpa using h.len,tx h.lt (Nat.mod_lt _ (by decide)),by rw[sJ];exact rT h.rest,?_,by omega⟩;have:=h.len;rw[si (by omega),yk (by omega),yk (by omega),← getD_drop h.rest,Nat.pow_succ];have hs:=h.sum;generalize x.getD i 0=u at *;generalize Y.getD i 0=v at *;generalize 65536 ^ i=P at *;have e:(u+65536 - v - c)%65536+v+c=u+65536*(1 - (u+65536 - v - c) / 65536):=by omega
 generalize 1 - (u+65536 - v - c) / 65536=q at *;generalize (u+65536 - v - c)%65536=r at *;have e2:P*(r+v+c)=P*(u+65536*q):=by rw[e]
 rw[Nat.mul_add,Nat.mul_add,Nat.mul_add] at e2;rw[← Nat.mul_assoc] at e2;omega
theorem fU (a b:Nat) (ha:a<zb) (hb:b<zb):Fn Tryz.prog 140 [zf a,zf b] Tr (Is (.tuple #[zf ((a+zb - b)%zb),.int .u64 ((bw a b 0:Nat):Int)])):=by
 have hA:=vP a ha;have hB:=vP b hb;have hlA:=yr 16 a;have hlB:=yr 16 b;have hltA:=pg 16 a;have hltB:=pg 16 b;have hvA:yL (dgs 16 a)=a:=by rw[uO,zO,Nat.mod_eq_of_lt ha]
 have hvB:yL (dgs 16 b)=b:=by rw[uO,zO,Nat.mod_eq_of_lt hb]
 have hO:=fun l g hl hlt=>aec l g 0 16 hl hlt;generalize dgs 16 a=X at *;generalize dgs 16 b=Y at *;have h0:cm X Y X 0 0:=⟨hlA,hltA,rfl,by simp[yL],by decide⟩;refine Fn.enter Tryz.func140 rfl rfl rfl ?_;intro w hw
 repeat (first|refine Ta ?_|(refine Tm ?_;intro _)|refine WO.acall (hc:=hA) (k:=?_)|refine WO.acall (hc:=hB) (k:=?_)|refine WO.stores (pd (hl:=hlA) (hc:=by rfl)) ?_|refine WO.stores (pd (hl:=hlB) (hc:=by rfl)) ?_|refine Tc ?_|exact Tz)
 rename_i g2 g3 g4 g6 g7;refine WC.loopI (σ:=Nat × List Nat × Nat) (fun s=>s.1≤16∧cm X Y s.2.1 s.1 s.2.2) (fun s=>[(4,pt g4),(6,pt g6),(7,pt g7),(8,.int .u64 (s.2.2:Int)),(9,.int .i64 (s.1:Int))]) (fun s=>[⟨g4,24,zc 0⟩,⟨g6,216,woC s.2.1⟩,⟨g7,216,woC Y⟩]) (fun s=>16 - s.1) (0,X,0) (fun s hs=>?_) ⟨Nat.zero_le _,h0⟩;obtain⟨i,x,c⟩:=s;obtain⟨hi,hS⟩:=hs;dsimp only at hi hS ⊢;have hlx:=hS.len;have hc1:=hS.one
 by_cases hlt:i<16
 ·have hn:=hS.step hlt hlA hlB hltB;have hux:=rk hS.lt (by decide) i;have huy:=rk hltB (by decide) i;have a1:=uy (x.getD i 0) 65536 (by omega);have a2:=oT (x.getD i 0+65536) (Y.getD i 0) (by omega) (by omega);have a3:=oT (x.getD i 0+65536 - Y.getD i 0) c (by omega) (by omega);have r1:=yP (x.getD i 0+65536 - Y.getD i 0 - c) 65536;have q1:=qT (x.getD i 0+65536 - Y.getD i 0 - c) 65536 (by omega);have s1:=oT 1 ((x.getD i 0+65536 - Y.getD i 0 - c) / 65536) (by omega) (by omega)
  repeat (first|refine Tw ?_|(refine Tm ?_;intro _)|exact Tz)
  refine WC.dT rfl (by omega) ?_
  repeat (first|refine Tw ?_|(refine Tm ?_;intro _)|exact Tz)
  refine WC.adraw 11 (k:=?_)
  repeat (first|refine Da ?_|refine DQ.does (fun s _=>tF (hi:=by omega)) Dp.const ?_|refine DQ.does (fun s _=>zh rfl rfl a1) Dp.const ?_|refine DQ.does (fun s _=>zA rfl rfl a2) Dp.const ?_|refine DQ.does (fun s _=>zA rfl rfl a3) Dp.const ?_|refine Dc ?_)
  refine DQ.anil (k:=?_);intro sx _
  repeat (first|refine Ta ?_|(refine Tm ?_;intro _)|refine WO.does (zP rfl rfl (by decide) r1) ?_|refine WO.stores (sh (hi:=by omega)) ?_|refine WO.does (yy rfl rfl (by decide) q1) ?_|refine WO.does (zA rfl rfl s1) ?_|refine Tc ?_|exact Tz)
  refine WX.metI (i+1,x.set i ((x.getD i 0+65536 - Y.getD i 0 - c)%65536),1 - (x.getD i 0+65536 - Y.getD i 0 - c) / 65536) (hs:=⟨⟨by show i+1≤16;omega,hn⟩,by show 16 - (i+1)<16 - i;omega⟩)
 ·have hi16:i=16:=by omega
  have hsum:=hS.sum;rw[hi16,vD hlx,vD hlA,vD hlB,zO,hvA,hvB] at hsum;have hxl:=nc hS.lt;rw[hlx,zO] at hxl;have hc:c=0∨c=1:=by omega
  have e1:(a+zb - b)%zb=yL x:=by
   rcases hc with rfl|rfl
   ·rw[show a+zb - b=yL x+zb by omega,Nat.add_mod_right,Nat.mod_eq_of_lt hxl]
   ·rw[show a+zb - b=yL x by omega,Nat.mod_eq_of_lt hxl]
  have e2:bw a b 0=c:=by
   unfold bw
   rcases hc with rfl|rfl
   ·rw[if_neg (by omega)]
   ·rw[if_pos (by omega)]
  rw[e1,e2];have hxo:=fun g=>hO x g hlx hS.lt;generalize yL x=R at *
  repeat (first|refine Tw ?_|(refine Tm ?_;intro _)|exact Tz)
  refine WC.dF rfl (by omega) ?_
  repeat (first|refine Ta ?_|(refine Tm ?_;intro _)|refine WO.does (yx rfl) ?_|refine WO.acallR (hc:=hxo _) (hR:=fun w' hm=>Hs.sg hm) (k:=?_)|refine Tc ?_|exact Tz)
section
variable {P:Program} {w0:World} {gs:List Nat} {K:List (Nat × Value)} {L:List Ent}
theorem oQ {t len elem size g o ty h:Nat} {k:IntKind} {x y:Operand} [ArT P t len elem size] (hx:ev K x=some (.pointer (some ⟨g,o,none⟩))) (hy:ev K y=some (.int k (h:Int))) (hh:h≤len) :
  Does P w0 gs K L (.slice t x none (some y) none) ty (.slice (some ⟨g,o,none⟩) h len):=by
 intro a w hk _ oo ho _;have hu:∀ w,(underlying t).run P w=.ok (.array len elem) w:=fun w=>by simp[underlying,ArT.under (P:=P) (t:=t)]
 have hb:((0:Int)≤(h:Int)∧(h:Int)≤(len:Int)):=by omega
 simp only[execOp,ho,hk.eval hx,Option.map_none,Option.map_some,hk.eval hy,Instr.sliceAt,Sem.run_bind,hu,Result.andThen_ok,Instr.sureAddr,Sem.run_pure,Instr.sliceBounds,Instr.sliceBound,asIntOf,if_pos hb,ArT.size (P:=P) (t:=t),Int.toNat_natCast];simp[vJ]
end
theorem cJ {w:World} {b o:Nat} {l:List Nat} (h:Seg w b o (woC l)) (n:Nat):Seg w b o (woC (l.take n)):=by
 have:=h.sub (k:=0) (m:=n) (vs:=woC (l.take n)) (by simp[cut,aW]);simpa using this
theorem aam {w:World} {b o:Nat} {l:List Nat} (h:Seg w b o (woC l)) (n:Nat):Seg w b (o+n) (woC (l.drop n)) :=
 h.sub (k:=n) (m:=l.length) (by rw[cut,bv,List.take_of_length_le];rw[yp,List.length_drop];omega)
theorem ma:∀ {l:List Nat} {i v:Nat},i<l.length→yL (l.set i v)+65536 ^ i*l.getD i 0=yL l+65536 ^ i*v
 | [],i,v,h=>by simp at h
 | d::r,0,v,_=>by simp[yL];omega
 | d::r,i+1,v,h=>by
  have:=ma (l:=r) (i:=i) (v:=v) (by simpa using h);simp only[List.set_cons_succ,yL,List.getD_cons_succ];have e:∀ z,65536 ^ (i+1)*z=65536*(65536 ^ i*z):=fun z=>by rw[Nat.pow_succ,Nat.mul_comm (65536 ^ i),Nat.mul_assoc]
  rw[e,e];omega
theorem getD_set_ne {l:List Nat} {i j v:Nat} (h:i≠j):(l.set i v).getD j 0=l.getD j 0:=by simp[List.getD,List.getElem?_set_ne h]
structure fo (X Y d:List Nat) (i:Nat):Prop where
 len:d.length=32
 lt:∀ x∈d,x<65536
 high:∀ j,i+16≤j→d.getD j 0=0
 prod:yL d=yL (X.take i)*yL Y
structure mU (Y d0 d:List Nat) (x i k c:Nat):Prop where
 len:d.length=32
 lt:∀ x∈d,x<65536
 high:∀ j,i+16≤j→d.getD j 0=0
 prod:yL d+65536 ^ (i+k)*c=yL d0+65536 ^ i*(x*yL (Y.take k))
 one:c<65536
theorem fo.start {X Y d:List Nat} {i:Nat} (h:fo X Y d i) (x:Nat):mU Y d d x i 0 0:=⟨h.len,h.lt,h.high,by simp[yL],by decide⟩
theorem mY {u x y c:Nat} (hu:u<65536) (hx:x<65536) (hy:y<65536) (hc:c<65536):u+x*y+c<4294967296:=by
 have:x*y≤65535*65535:=Nat.mul_le_mul (by omega) (by omega);omega
theorem mU.step {Y d0 d:List Nat} {x i k c:Nat} (h:mU Y d0 d x i k c) (hi:i<16) (hk:k<16) (hx:x<65536) (hY:Y.length=16) (hYl:∀ d∈Y,d<65536) :
  mU Y d0 (d.set (i+k) ((d.getD (i+k) 0+x*Y.getD k 0+c)%65536)) x i (k+1) ((d.getD (i+k) 0+x*Y.getD k 0+c) / 65536):=by
 have hu:=rk h.lt (by decide) (i+k);have hy:=rk hYl (by decide) k;have hb:=mY hu hx hy h.one;have hl:=h.len;refine⟨by simpa using h.len,tx h.lt (Nat.mod_lt _ (by decide)),fun j hj=>by rw[getD_set_ne (by omega)];exact h.high j hj,?_,by omega⟩;have hs:=ma (l:=d) (i:=i+k) (v:=(d.getD (i+k) 0+x*Y.getD k 0+c)%65536) (by omega);have hp:=h.prod;rw[yk (by omega),Nat.mul_add,Nat.mul_add,← Nat.add_assoc (yL d0),← hp];generalize yL (d.set (i+k) _)=D at *;have e1:65536 ^ i*(x*(65536 ^ k*Y.getD k 0))=65536 ^ (i+k)*(x*Y.getD k 0):=by
  rw[Nat.pow_add,Nat.mul_assoc,Nat.mul_left_comm x]
 rw[e1,show i+(k+1)=(i+k)+1 by omega,Nat.pow_succ];generalize d.getD (i+k) 0=u at *;generalize x*Y.getD k 0=v at *;generalize 65536 ^ (i+k)=P at *;have e:u+v+c=65536*((u+v+c) / 65536)+(u+v+c)%65536:=(Nat.div_add_mod _ _).symm;generalize (u+v+c) / 65536=q at *;generalize (u+v+c)%65536=r at *;have e2:P*(u+v+c)=P*(65536*q+r):=by rw[e]
 rw[Nat.mul_add,Nat.mul_add,Nat.mul_add] at e2;rw[← Nat.mul_assoc] at e2;omega
theorem mU.done {X Y d0 d:List Nat} {i c:Nat} (h0:fo X Y d0 i) (h:mU Y d0 d (X.getD i 0) i 16 c) (hi:i<16) (hX:X.length=16) (hY:Y.length=16):fo X Y (d.set (i+16) c) (i+1):=by
 have hl:=h.len;refine⟨by simpa using h.len,tx h.lt h.one,fun j hj=>by rw[getD_set_ne (by omega)];exact h.high j (by omega),?_⟩;have hs:=ma (l:=d) (i:=i+16) (v:=c) (by omega);rw[h.high _ (Nat.le_refl _),Nat.mul_zero,Nat.add_zero] at hs;rw[hs,h.prod,vD hY,h0.prod,yk (by omega),Nat.add_mul,Nat.mul_assoc]
theorem ad6 (a b:Nat) (ha:a<zb) (hb:b<zb):Fn Tryz.prog 187 [zf a,zf b] Tr (Is (.tuple #[zf (a*b%zb),zf (a*b / zb)])):=by
 have hA:=vP a ha;have hB:=vP b hb;have hlA:=yr 16 a;have hlB:=yr 16 b;have hltA:=pg 16 a;have hltB:=pg 16 b;have hvA:yL (dgs 16 a)=a:=by rw[uO,zO,Nat.mod_eq_of_lt ha]
 have hvB:yL (dgs 16 b)=b:=by rw[uO,zO,Nat.mod_eq_of_lt hb]
 have hO:=fun l g o c hl hlt=>aec l g o c hl hlt;generalize dgs 16 a=X at *;generalize dgs 16 b=Y at *;have h0:fo X Y (List.replicate 32 0) 0:=⟨by simp,by simp,fun j _=>by unfold List.getD;rw[List.getElem?_replicate];split<;>rfl,by simp[yL,List.replicate]⟩;refine Fn.enter Tryz.func187 rfl rfl rfl ?_;intro w hw
 repeat (first|refine Ta ?_|(refine Tm ?_;intro _)|refine WO.acall (hc:=hA) (k:=?_)|refine WO.acall (hc:=hB) (k:=?_)|refine WO.stores (pd (hl:=hlA) (hc:=by rfl)) ?_|refine WO.stores (pd (hl:=hlB) (hc:=by rfl)) ?_|refine Tc ?_|exact Tz)
 rename_i g2 g3 g4 g5 g6 g7 g8;refine WC.loopI (σ:=Nat × List Nat) (fun s=>s.1≤16∧fo X Y s.2 s.1) (fun s=>[(4,pt g4),(5,pt g5),(6,pt g6),(7,pt g7),(8,pt g8),(9,.int .i64 (s.1:Int))]) (fun s=>[⟨g4,24,zc 0⟩,⟨g5,24,zc 0⟩,⟨g6,216,woC X⟩,⟨g7,216,woC Y⟩,⟨g8,238,woC s.2⟩]) (fun s=>16 - s.1) (0,List.replicate 32 0) (fun s hs=>?_) ⟨Nat.zero_le _,h0⟩;obtain⟨i,d0⟩:=s;obtain⟨hi,hS⟩:=hs;dsimp only at hi hS ⊢
 by_cases hlt:i<16
 ·have hux:=rk hltA (by decide) i
  repeat (first|refine Tw ?_|(refine Tm ?_;intro _)|exact Tz)
  refine WC.dT rfl (by omega) ?_
  repeat (first|refine Tw ?_|(refine Tm ?_;intro _)|exact Tz)
  refine WC.loopI (σ:=Nat × List Nat × Nat) (fun s=>s.1≤16∧mU Y d0 s.2.1 (X.getD i 0) i s.1 s.2.2) (fun s=>[(4,pt g4),(5,pt g5),(6,pt g6),(7,pt g7),(8,pt g8),(9,.int .i64 (i:Int)),(10,.int .u64 (s.2.2:Int)),(11,.int .i64 (s.1:Int))]) (fun s=>[⟨g4,24,zc 0⟩,⟨g5,24,zc 0⟩,⟨g6,216,woC X⟩,⟨g7,216,woC Y⟩,⟨g8,238,woC s.2.1⟩]) (fun s=>16 - s.1) (0,d0,0) (fun s hs=>?_) ⟨Nat.zero_le _,hS.start _⟩;obtain⟨k,d,c⟩:=s;obtain⟨hk,hI⟩:=hs;dsimp only at hk hI ⊢;have hld:=hI.len;have hc1:=hI.one
  by_cases hlk:k<16
  ·have hn:=hI.step hlt hlk hux hlB hltB;have hu:=rk hI.lt (by decide) (i+k);have huy:=rk hltB (by decide) k;have hb:=mY hu hux huy hc1;have hb2:=Nat.mul_le_mul (Nat.le_of_lt_succ hux) (Nat.le_of_lt_succ huy);have ad:=zl (x:=(i:Int)+(k:Int)) (r:=((i+k:Nat):Int)) (by omega) (by omega) (by omega);have m1:=kb (X.getD i 0) (Y.getD k 0) (by omega);have a1:=uy (d.getD (i+k) 0) (X.getD i 0*Y.getD k 0) (by omega);have a2:=uy (d.getD (i+k) 0+X.getD i 0*Y.getD k 0) c (by omega);have r1:=yP (d.getD (i+k) 0+X.getD i 0*Y.getD k 0+c) 65536;have q1:=qT (d.getD (i+k) 0+X.getD i 0*Y.getD k 0+c) 65536 (by omega)
   repeat (first|refine Tw ?_|(refine Tm ?_;intro _)|exact Tz)
   refine WC.dT rfl (by omega) ?_
   repeat (first|refine Tw ?_|(refine Tm ?_;intro _)|exact Tz)
   refine WC.adraw 16 (k:=?_)
   repeat (first|refine Da ?_|refine DQ.does (fun s _=>tF (hi:=by omega)) Dp.const ?_|refine DQ.does (fun s _=>zh rfl rfl ad) Dp.const ?_|refine DQ.does (fun s _=>z6 rfl rfl m1) Dp.const ?_|refine DQ.does (fun s _=>zh rfl rfl a1) Dp.const ?_|refine DQ.does (fun s _=>zh rfl rfl a2) Dp.const ?_|refine Dc ?_)
   refine DQ.anil (k:=?_);intro sx _
   repeat (first|refine Ta ?_|(refine Tm ?_;intro _)|refine WO.does (zh rfl rfl ad) ?_|refine WO.does (zP rfl rfl (by decide) r1) ?_|refine WO.stores (sh (hi:=by omega)) ?_|refine WO.does (yy rfl rfl (by decide) q1) ?_|refine Tc ?_|exact Tz)
   refine WX.metI (k+1,d.set (i+k) ((d.getD (i+k) 0+X.getD i 0*Y.getD k 0+c)%65536),(d.getD (i+k) 0+X.getD i 0*Y.getD k 0+c) / 65536) (hs:=⟨⟨by show k+1≤16;omega,hn⟩,by show 16 - (k+1)<16 - k;omega⟩)
  ·have hk16:k=16:=by omega
   have hn:=mU.done hS (by rw[← hk16];exact hI) hlt hlA hlB;have ad:=zl (x:=(i:Int)+16) (r:=((i+16:Nat):Int)) (by omega) (by omega) (by omega)
   repeat (first|refine Tw ?_|(refine Tm ?_;intro _)|exact Tz)
   refine WC.dF rfl (by omega) ?_
   repeat (first|refine Ta ?_|(refine Tm ?_;intro _)|refine WO.does (zh rfl rfl ad) ?_|refine WO.stores (sh (hi:=by omega)) ?_|refine Tc ?_|exact Tz)
   refine WX.metI (i+1,d.set (i+16) c) (hs:=⟨⟨by show i+1≤16;omega,hn⟩,by show 16 - (i+1)<16 - i;omega⟩)
 ·have hi16:i=16:=by omega
  have hp:=hS.prod;rw[hi16,vD hlA,hvA,hvB] at hp;have hld:=hS.len;have e0:yL d0=yL (d0.take 16)+zb*yL (d0.drop 16):=by
   rw[← zO];have:=tH (d0.take 16) (d0.drop 16);rw[List.take_append_drop,List.length_take,hld] at this;exact this
  have l1:(d0.take 16).length=16:=by rw[List.length_take,hld];rfl
  have l2:(d0.drop 16).length=16:=by rw[List.length_drop,hld]
  have t1:∀ x∈d0.take 16,x<65536:=fun x hx=>hS.lt x (List.mem_of_mem_take hx);have t2:∀ x∈d0.drop 16,x<65536:=fun x hx=>hS.lt x (List.mem_of_mem_drop hx);have hxl:=nc t1;rw[l1,zO] at hxl;have e1:a*b%zb=yL (d0.take 16):=by rw[← hp,e0,Nat.add_mul_mod_self_left,Nat.mod_eq_of_lt hxl]
  have e2:a*b / zb=yL (d0.drop 16):=by rw[← hp,e0,Nat.add_mul_div_left _ _ zq,Nat.div_eq_of_lt hxl,Nat.zero_add]
  rw[e1,e2];have o1:=fun g c=>hO (d0.take 16) g 0 c l1 t1;have o2:=fun g=>hO (d0.drop 16) g 16 16 l2 t2;generalize yL (d0.take 16)=R1 at *;generalize yL (d0.drop 16)=R2 at *
  repeat (first|refine Tw ?_|(refine Tm ?_;intro _)|exact Tz)
  refine WC.dF rfl (by omega) ?_
  repeat (first|refine Tw ?_|(refine Tm ?_;intro _)|exact Tz)
  refine WC.adraw 4 (k:=?_);refine DQ.does (v:=fun _=>.slice (some ⟨g8,0,none⟩) 16 32) (fun s _=>oQ (len:=32) (h:=16) rfl rfl (by decide)) Dp.const ?_;refine DQ.acallR (hc:=o1 _ _) (hR:=fun w' hm=>cJ (Hs.sg hm) 16) (k:=?_);refine DQ.does (v:=fun _=>.slice (some ⟨g8,16,none⟩) 16 16) (fun s _=>u6 (len:=32) (l:=16) (o':=16) rfl rfl (by decide) (by rfl)) Dp.const ?_;refine DQ.acallR (hc:=o2 _) (hR:=fun w' hm=>by have:=aam (Hs.seg (g:=g8) (t:=238) (cs:=woC d0) Hs.a hm) 16;rwa [Nat.zero_add] at this) (k:=?_)
  repeat (first|refine Da ?_|refine Dc ?_)
  refine DQ.anil (k:=?_);intro sx _
  repeat (first|refine Tw ?_|(refine Tm ?_;intro _)|exact Tz)
theorem lY (hi lo y:Nat) (h1:lo<18446744073709551616) (h2:y<18446744073709551616) (h3:hi<y):Fn Tryz.prog 186 [.int .u64 (hi:Int),.int .u64 (lo:Int),.int .u64 (y:Int)] Tr
  (Is (.tuple #[.int .u64 (((hi*18446744073709551616+lo) / y:Nat):Int),.int .u64 (((hi*18446744073709551616+lo)%y:Nat):Int)])):=.of fun w=>tp hi lo y h1 h2 h3 w
theorem eb (x y:Nat) (hx:x<18446744073709551616) (hy:y<18446744073709551616):Fn Tryz.prog 185 [.int .u64 (x:Int),.int .u64 (y:Int)] Tr
  (Is (.tuple #[.int .u64 ((x*y / 18446744073709551616:Nat):Int),.int .u64 ((x*y%18446744073709551616:Nat):Int)])):=.of fun w=>(Tryz.bits_Mul64 x y hx hy w).mono (fun e w' ⟨h1,h2⟩=>by subst h2;exact⟨h1,Below.refl _ _⟩)
theorem rI {a:Nat} (ha:a<zb):a<18446744073709551616↔wd 1 a=0∧wd 2 a=0∧wd 3 a=0:=by
 unfold zb at ha;simp only[wd];omega
theorem rU (a:Nat) (ha:a<zb):Fn Tryz.prog 133 [zf a] Tr (Is (.bool (decide (a<18446744073709551616)))):=by
 have hp:=rI ha
 by_cases h1:wd 1 a=0
 ·by_cases h2:wd 2 a=0
  ·by_cases h3:wd 3 a=0
   ·rw[show decide (a<18446744073709551616)=true from decide_eq_true (hp.2 ⟨h1,h2,h3⟩)];have d1:decide (((wd 1 a:Nat):Int)=0)=true:=decide_eq_true (by omega);have d2:decide (((wd 2 a:Nat):Int)=0)=true:=decide_eq_true (by omega);have d3:decide (((wd 3 a:Nat):Int)=0)=true:=decide_eq_true (by omega);refine Fn.enter Tryz.func133 rfl rfl rfl ?_;intro w hw
    repeat (first|refine Tw ?_|(refine Tm ?_;intro _)|exact Tz)
    rw[d1]
    repeat (first|refine Tw ?_|(refine Tm ?_;intro _)|exact Tz)
    rw[d2]
    repeat (first|refine Tw ?_|(refine Tm ?_;intro _)|exact Tz)
    rw[d3]
    repeat (first|refine Tw ?_|(refine Tm ?_;intro _)|exact Tz)
   ·rw[show decide (a<18446744073709551616)=false from decide_eq_false (fun h=>h3 (hp.1 h).2.2)];have d1:decide (((wd 1 a:Nat):Int)=0)=true:=decide_eq_true (by omega);have d2:decide (((wd 2 a:Nat):Int)=0)=true:=decide_eq_true (by omega);have d3:decide (((wd 3 a:Nat):Int)=0)=false:=decide_eq_false (by omega);refine Fn.enter Tryz.func133 rfl rfl rfl ?_;intro w hw
    repeat (first|refine Tw ?_|(refine Tm ?_;intro _)|exact Tz)
    rw[d1]
    repeat (first|refine Tw ?_|(refine Tm ?_;intro _)|exact Tz)
    rw[d2]
    repeat (first|refine Tw ?_|(refine Tm ?_;intro _)|exact Tz)
    rw[d3]
    repeat (first|refine Tw ?_|(refine Tm ?_;intro _)|exact Tz)
  ·rw[show decide (a<18446744073709551616)=false from decide_eq_false (fun h=>h2 (hp.1 h).2.1)];have d1:decide (((wd 1 a:Nat):Int)=0)=true:=decide_eq_true (by omega);have d2:decide (((wd 2 a:Nat):Int)=0)=false:=decide_eq_false (by omega);refine Fn.enter Tryz.func133 rfl rfl rfl ?_;intro w hw
   repeat (first|refine Tw ?_|(refine Tm ?_;intro _)|exact Tz)
   rw[d1]
   repeat (first|refine Tw ?_|(refine Tm ?_;intro _)|exact Tz)
   rw[d2]
   repeat (first|refine Tw ?_|(refine Tm ?_;intro _)|exact Tz)
 ·rw[show decide (a<18446744073709551616)=false from decide_eq_false (fun h=>h1 (hp.1 h).1)];have d1:decide (((wd 1 a:Nat):Int)=0)=false:=decide_eq_false (by omega);refine Fn.enter Tryz.func133 rfl rfl rfl ?_;intro w hw
  repeat (first|refine Tw ?_|(refine Tm ?_;intro _)|exact Tz)
  rw[d1]
  repeat (first|refine Tw ?_|(refine Tm ?_;intro _)|exact Tz)
theorem pT {X b:Nat} (hX:X<zb) (h2:X%2=0) (hb:b≤1):wd 0 X+b<18446744073709551616∧wd 0 (X+b)=wd 0 X+b∧wd 1 (X+b)=wd 1 X∧wd 2 (X+b)=wd 2 X∧wd 3 (X+b)=wd 3 X∧X+b<zb:=by
 unfold zb at *;simp only[wd];omega
theorem om (r:Nat):(r+r)%zb%2=0:=by unfold zb;omega
theorem qP {r b m:Nat} (hr:r<m) (hb:b≤1) (hm:m<zb) :
  ((r+r) / zb=0∧vG ((r+r)%zb+b) m = -1∧(2*r+b)%m=(r+r)%zb+b) ∨
  ((r+r) / zb=1∧(2*r+b)%m=((r+r)%zb+b+zb - m)%zb) ∨
  ((r+r) / zb=0∧(vG ((r+r)%zb+b) m=0∨vG ((r+r)%zb+b) m=1)∧(2*r+b)%m=((r+r)%zb+b+zb - m)%zb):=by
 by_cases hc:r+r<zb
 ·have e:(r+r)%zb=r+r:=Nat.mod_eq_of_lt hc;have e0:(r+r) / zb=0:=Nat.div_eq_of_lt hc;rw[e,e0]
  by_cases h:r+r+b<m
  ·exact .inl ⟨rfl,tJ h,by rw[show 2*r+b=r+r+b by omega];exact Nat.mod_eq_of_lt h⟩
  ·refine .inr (.inr ⟨rfl,?_,?_⟩)
   ·rcases Nat.lt_or_ge m (r+r+b) with h1|h1
    ·exact .inr (uL h1)
    ·exact .inl (tK (by omega))
   ·rw[Nat.mod_eq_sub_mod (by omega),Nat.mod_eq_of_lt (by omega),show r+r+b+zb - m=(r+r+b - m)+zb by omega,Nat.add_mod_right,Nat.mod_eq_of_lt (by omega)];omega
 ·have e:(r+r)%zb=r+r - zb:=by rw[Nat.mod_eq_sub_mod (by omega),Nat.mod_eq_of_lt (by omega)]
  refine .inr (.inl ⟨?_,?_⟩)
  ·rw[Nat.div_eq_iff zq];omega
  ·rw[e,Nat.mod_eq_sub_mod (by omega),Nat.mod_eq_of_lt (by omega),show r+r - zb+b+zb - m=2*r+b - m by omega,Nat.mod_eq_of_lt (by omega)]
theorem ab2 (r b m:Nat) (hr:r<m) (hb:b≤1) (hm:m<zb):Fn Tryz.prog 215 [zf r,.int .u64 (b:Int),zf m] Tr (Is (zf ((2*r+b)%m))):=by
 have hc:=qP hr hb hm;have hA:=az r r (by omega) (by omega);have hXl:(r+r)%zb<zb:=Nat.mod_lt _ zq;obtain⟨w0,e0,e1,e2,e3,hY⟩:=pT hXl (om r) hb;have hC:=ny ((r+r)%zb+b) m hY hm;have hS:=fU ((r+r)%zb+b) m hY hm;have ha:=uy (wd 0 ((r+r)%zb)) b w0;rw[← e0] at ha;generalize (2*r+b)%m=R at *;generalize (r+r) / zb=c at *;generalize ((r+r)%zb+b+zb - m)%zb=y at *;generalize bw ((r+r)%zb+b) m 0=l at *;generalize (r+r)%zb+b=Y at *;generalize (r+r)%zb=X at *;simp only[zf] at hA;rw[← e1,← e2,← e3] at hA
 rcases hc with ⟨rfl,h2,rfl⟩|⟨rfl,rfl⟩|⟨rfl,h2|h2,rfl⟩
 ·rw[h2] at hC;refine Fn.enter Tryz.func215 rfl rfl rfl ?_;intro w hw
  repeat (first|refine Ta ?_|(refine Tm ?_;intro _)|refine WO.acall (hc:=hA) (k:=?_)|refine WO.acall (hc:=hC) (k:=?_)|refine WO.acall (hc:=hS) (k:=?_)|refine WO.does (zh rfl rfl ha) ?_|refine Tc ?_|exact Tz)
 ·refine Fn.enter Tryz.func215 rfl rfl rfl ?_;intro w hw
  repeat (first|refine Ta ?_|(refine Tm ?_;intro _)|refine WO.acall (hc:=hA) (k:=?_)|refine WO.acall (hc:=hC) (k:=?_)|refine WO.acall (hc:=hS) (k:=?_)|refine WO.does (zh rfl rfl ha) ?_|refine Tc ?_|exact Tz)
 ·rw[h2] at hC;refine Fn.enter Tryz.func215 rfl rfl rfl ?_;intro w hw
  repeat (first|refine Ta ?_|(refine Tm ?_;intro _)|refine WO.acall (hc:=hA) (k:=?_)|refine WO.acall (hc:=hC) (k:=?_)|refine WO.acall (hc:=hS) (k:=?_)|refine WO.does (zh rfl rfl ha) ?_|refine Tc ?_|exact Tz)
 ·rw[h2] at hC;refine Fn.enter Tryz.func215 rfl rfl rfl ?_;intro w hw
  repeat (first|refine Ta ?_|(refine Tm ?_;intro _)|refine WO.acall (hc:=hA) (k:=?_)|refine WO.acall (hc:=hC) (k:=?_)|refine WO.acall (hc:=hS) (k:=?_)|refine WO.does (zh rfl rfl ha) ?_|refine Tc ?_|exact Tz)
end Sx
end
section
open Go Go.RowKit
namespace Sx
attribute [local irreducible] DQ DQS WC WO WX
theorem sO (a i:Nat):a / 2 ^ i=2*(a / 2 ^ (i+1))+vb a i:=by
 unfold vb;rw[Nat.pow_succ,← Nat.div_div_eq_div_mul];omega
theorem pe (A b m:Nat):(2*(A%m)+b)%m=(2*A+b)%m:=by
 rw[Nat.add_mod,Nat.mul_mod_mod,← Nat.add_mod]
theorem qg:zb=2 ^ 256:=by decide
theorem abZ {hi lo i:Nat} (h:i<256):vb (hi*zb+lo) i=vb lo i:=by
 unfold vb;have e:hi*zb+lo=2 ^ i*(2*(hi*2 ^ (255 - i)))+lo:=by
  rw[qg];congr 1;have:(2:Nat) ^ 256=2 ^ i*(2*2 ^ (255 - i)):=by
   rw[show 2*2 ^ (255 - i)=2 ^ (256 - i) by rw[show 256 - i=(255 - i)+1 by omega,Nat.pow_succ,Nat.mul_comm],← Nat.pow_add];congr 1;omega
  rw[this,Nat.mul_left_comm hi,Nat.mul_left_comm hi]
 rw[e,Nat.mul_add_div (Nat.two_pow_pos i),Nat.mul_add_mod]
theorem u4 (a i:Nat):vb a i≤1:=by unfold vb;omega
theorem aa8 {hi lo i:Nat} (hlo:lo<zb) (hhi:hi<zb) (h:i<8):(hi*zb+lo) / 18446744073709551616 ^ i%18446744073709551616=if 4≤i then wd (i - 4) hi else wd i lo:=by
 unfold zb at *
 match i,h with
 | 0,_|1,_|2,_|3,_|4,_|5,_|6,_|7,_=>simp only[wd,Nat.reducePow,Nat.reduceLeDiff,if_true,if_false,Nat.reduceSub];omega
theorem dL (N i:Nat):N / 18446744073709551616 ^ i=N / 18446744073709551616 ^ (i+1)*18446744073709551616+N / 18446744073709551616 ^ i%18446744073709551616:=by
 rw[Nat.pow_succ,← Nat.div_div_eq_div_mul];omega
theorem eF (A w m:Nat):(A%m*18446744073709551616+w)%m=(A*18446744073709551616+w)%m:=by
 rw[Nat.add_mod,Nat.mod_mul_mod,← Nat.add_mod]
theorem acl (lo hi m:Nat) (hlo:lo<zb) (hhi:hi<zb) (hm:m<18446744073709551616) (h0:0<m):Fn Tryz.prog 188 [zf lo,zf hi,zf m] Tr (Is (.tuple #[zf ((hi*zb+lo)%m),.int .i64 0])):=by
 have hmB:m<zb:=vE hm;have hW:=rU m hmB;rw[decide_eq_true hm] at hW;have hne:decide (m=0)=false:=decide_eq_false (by omega);have hm0:wd 0 m=m:=Nat.mod_eq_of_lt hm;have hwo:=fun i (h:i<8)=>aa8 hlo hhi h;have hws:=fun i=>dL (hi*zb+lo) i;have hend:(hi*zb+lo) / 18446744073709551616 ^ 8=0:=Nat.div_eq_of_lt (by unfold zb at *;omega);generalize hi*zb+lo=N at *
 have hD:∀ r w:Nat,w<18446744073709551616→r<m→Fn Tryz.prog 186 [.int .u64 (r:Int),.int .u64 (w:Int),.int .u64 ((wd 0 m:Nat):Int)] Tr
   (Is (.tuple #[.int .u64 (((r*18446744073709551616+w) / m:Nat):Int),.int .u64 (((r*18446744073709551616+w)%m:Nat):Int)])):=fun r w h1 h3=>by rw[hm0];exact lY r w m h1 hm h3
 have hO:=aaQ (N%m) (Nat.lt_trans (Nat.mod_lt _ h0) hm);refine Fn.enter Tryz.func188 rfl rfl rfl ?_;intro w hw
 repeat (first|refine Ta ?_|(refine Tm ?_;intro _)|refine WO.does zZ ?_|refine Tc ?_|exact Tz)
 rw[hne]
 repeat (first|refine Ta ?_|(refine Tm ?_;intro _)|refine WO.acall (hc:=hW) (k:=?_)|refine Tc ?_|exact Tz)
 rename_i g3 g4 g5 g6;refine WC.loopI (σ:=Nat) (fun j=>j≤8) (fun j=>[(3,pt g3),(4,pt g4),(5,pt g5),(6,pt g6),(7,.int .i64 0),(8,.int .u64 ((N / 18446744073709551616 ^ j%m:Nat):Int)),(9,.int .i64 ((j:Int) - 1))]) (fun j=>[⟨g3,24,zc lo⟩,⟨g4,24,zc hi⟩,⟨g5,24,zc m⟩,⟨g6,24,zc 0⟩]) (fun j=>j) 8 (fun j hj=>?_) (Nat.le_refl _) (by
   rw[hend,Nat.zero_mod]
   repeat (first|exact Kle.nil|refine Kle.cons rfl rfl ?_))
 try dsimp only at hj ⊢
 cases j with
 | zero =>
  rw[Nat.pow_zero,Nat.div_one];generalize N%m=R at *
  repeat (first|refine Ta ?_|(refine Tm ?_;intro _)|refine WO.acall (hc:=hO) (k:=?_)|refine Tc ?_|exact Tz)
 | succ i =>
  have hr:=yP i 4;have hw:=hwo i (by omega);have hst:=hws i;have hDi:=hD (N / 18446744073709551616 ^ (i+1)%m) (N / 18446744073709551616 ^ i%18446744073709551616) (Nat.mod_lt _ (by decide)) (Nat.mod_lt _ h0);rw[eF,← hst,hw] at hDi;rw[show (((i+1:Nat):Int) - 1)=(i:Int) by omega];clear hw hst hws hwo hD hO hend
  by_cases h4:4≤i
  ·rw[if_pos h4] at hDi;have d4:decide ((4:Int)≤(i:Int))=true:=decide_eq_true (by omega);have hs4:IntKind.i64.wrap ((i:Int) - 4)=((i - 4:Nat):Int):=zl (by omega) (by omega) (by omega);generalize hR' : N / 18446744073709551616 ^ i%m=R' at *;generalize N / 18446744073709551616 ^ (i+1)%m=R at *;generalize (R*18446744073709551616+wd (i - 4) hi) / m=q at *
   repeat (first|refine Ta ?_|(refine Tm ?_;intro _)|refine WO.does (zP rfl rfl (by decide) hr) ?_|refine WO.does (ck (hj:=by omega)) ?_|refine Tc ?_|exact Tz)
   rw[d4]
   repeat (first|refine Ta ?_|(refine Tm ?_;intro _)|refine WO.does (zA rfl rfl hs4) ?_|refine WO.does (ck (hj:=by omega)) ?_|refine WO.acall (hc:=hDi) (k:=?_)|refine Tc ?_|exact Tz)
   refine WX.metI i (hs:=⟨by omega,by show i<i+1;omega⟩) (hk:=(by repeat (first|exact Kle.nil|refine Kle.cons rfl (by first|rfl|(rw[hR'])) ?_)))
  ·rw[if_neg h4] at hDi;have d4:decide ((4:Int)≤(i:Int))=false:=decide_eq_false (by omega);have him:i%4=i:=Nat.mod_eq_of_lt (by omega);rw[him] at hr;generalize hR' : N / 18446744073709551616 ^ i%m=R' at *;generalize N / 18446744073709551616 ^ (i+1)%m=R at *;generalize (R*18446744073709551616+wd i lo) / m=q at *
   repeat (first|refine Ta ?_|(refine Tm ?_;intro _)|refine WO.does (zP rfl rfl (by decide) hr) ?_|refine WO.does (ck (hj:=by omega)) ?_|refine Tc ?_|exact Tz)
   rw[d4]
   repeat (first|refine Ta ?_|(refine Tm ?_;intro _)|refine WO.acall (hc:=hDi) (k:=?_)|refine Tc ?_|exact Tz)
   refine WX.metI i (hs:=⟨by omega,by show i<i+1;omega⟩) (hk:=(by repeat (first|exact Kle.nil|refine Kle.cons rfl (by first|rfl|(rw[hR'])) ?_)))
theorem acn (lo hi m:Nat) (hlo:lo<zb) (hhi:hi<zb) (hm:¬ m<18446744073709551616) (hmB:m<zb):Fn Tryz.prog 188 [zf lo,zf hi,zf m] Tr (Is (.tuple #[zf ((hi*zb+lo)%m),.int .i64 0])):=by
 have hW:=rU m hmB;rw[decide_eq_false hm] at hW;have hne:decide (m=0)=false:=decide_eq_false (by omega);have hm0:0<m:=by omega
 have hB1:=fun i (hi2:i<256)=>dY hi i hhi hi2;have hB2:=fun i (hi2:i<256)=>dY lo i hlo hi2;have hT:=fun (r b:Nat) (hr:r<m) (hb:b≤1)=>ab2 r b m hr hb hmB;have hs1:=fun i=>sO hi i;have hs2:=fun i=>sO (hi*zb+lo) i;have hlow:=fun i (h:i<256)=>abZ (hi:=hi) (lo:=lo) h;have htop:hi / 2 ^ 256%m=0:=by rw[Nat.div_eq_of_lt (by rw[← qg];exact hhi),Nat.zero_mod]
 have hmid:(hi*zb+lo) / 2 ^ 256=hi:=by rw[← qg,Nat.mul_comm,Nat.mul_add_div zq,Nat.div_eq_of_lt hlo,Nat.add_zero]
 generalize hi*zb+lo=N at *;refine Fn.enter Tryz.func188 rfl rfl rfl ?_;intro w hw
 repeat (first|refine Ta ?_|(refine Tm ?_;intro _)|refine WO.does zZ ?_|refine Tc ?_|exact Tz)
 rw[hne]
 repeat (first|refine Ta ?_|(refine Tm ?_;intro _)|refine WO.acall (hc:=hW) (k:=?_)|refine Tc ?_|exact Tz)
 rename_i g3 g4 g5 g6 g11;refine WC.loopI (σ:=Nat) (fun j=>j≤256) (fun j=>[(3,pt g3),(4,pt g4),(5,pt g5),(6,pt g6),(7,.int .i64 0),(11,pt g11),(12,.int .i64 ((j:Int) - 1))]) (fun j=>[⟨g3,24,zc lo⟩,⟨g4,24,zc hi⟩,⟨g5,24,zc m⟩,⟨g6,24,zc 0⟩,⟨g11,24,zc (hi / 2 ^ j%m)⟩]) (fun j=>j) 256 (fun j hj=>?_) (Nat.le_refl _) (by repeat (first|exact Kle.nil|refine Kle.cons rfl rfl ?_)) (by
   rw[htop]
   repeat (first|exact Lle.nil|refine Lle.c ?_))
 try dsimp only at hj ⊢
 cases j with
 | succ i =>
  have h1:=hB1 i (by omega);have h2:=hT (hi / 2 ^ (i+1)%m) (vb hi i) (Nat.mod_lt _ hm0) (u4 _ _);rw[pe,← hs1 i] at h2;rw[show (((i+1:Nat):Int) - 1)=(i:Int) by omega];clear hs1 hs2 hlow htop hmid hB1 hB2 hT;generalize hR:hi / 2 ^ (i+1)%m=R at *;generalize hR' : hi / 2 ^ i%m=R' at *
  repeat (first|refine Tw ?_|(refine Tm ?_;intro _)|exact Tz)
  refine WC.adraw 6 (k:=?_)
  repeat (first|refine Da ?_|refine DQ.acall (hc:=h1) (k:=?_)|refine DQ.acall (hc:=h2) (k:=?_)|refine Dc ?_)
  refine DQ.anil (k:=?_);intro sx _
  repeat (first|refine Tw ?_|(refine Tm ?_;intro _)|exact Tz)
  refine WX.metI i (hl:=(by repeat (first|exact Lle.nil|refine Lle.cons Pk.a (by first|rfl|(rw[hR'])) ?_))) (hs:=⟨by omega,by show i<i+1;omega⟩)
 | zero =>
  rw[Nat.pow_zero,Nat.div_one]
  repeat (first|refine Tw ?_|(refine Tm ?_;intro _)|exact Tz)
  refine WC.loopI (σ:=Nat) (fun j=>j≤256) (fun j=>[(3,pt g3),(4,pt g4),(5,pt g5),(6,pt g6),(7,.int .i64 0),(11,pt g11),(13,.int .i64 ((j:Int) - 1))]) (fun j=>[⟨g3,24,zc lo⟩,⟨g4,24,zc hi⟩,⟨g5,24,zc m⟩,⟨g6,24,zc 0⟩,⟨g11,24,zc (N / 2 ^ j%m)⟩]) (fun j=>j) 256 (fun j hj=>?_) (Nat.le_refl _) (by repeat (first|exact Kle.nil|refine Kle.cons rfl rfl ?_)) (by
   rw[hmid]
   repeat (first|exact Lle.nil|refine Lle.c ?_))
  try dsimp only at hj ⊢
  cases j with
  | succ i =>
   have h1:=hB2 i (by omega);have h2:=hT (N / 2 ^ (i+1)%m) (vb N i) (Nat.mod_lt _ hm0) (u4 _ _);rw[pe,← hs2 i,hlow i (by omega)] at h2;rw[show (((i+1:Nat):Int) - 1)=(i:Int) by omega];clear hs1 hs2 hlow htop hmid hB1 hB2 hT;generalize hR:N / 2 ^ (i+1)%m=R at *;generalize hR' : N / 2 ^ i%m=R' at *
   repeat (first|refine Tw ?_|(refine Tm ?_;intro _)|exact Tz)
   refine WC.adraw 6 (k:=?_)
   repeat (first|refine Da ?_|refine DQ.acall (hc:=h1) (k:=?_)|refine DQ.acall (hc:=h2) (k:=?_)|refine Dc ?_)
   refine DQ.anil (k:=?_);intro sx _
   repeat (first|refine Tw ?_|(refine Tm ?_;intro _)|exact Tz)
   refine WX.metI i (hl:=(by repeat (first|exact Lle.nil|refine Lle.cons Pk.a (by first|rfl|(rw[hR'])) ?_))) (hs:=⟨by omega,by show i<i+1;omega⟩)
  | zero =>
   rw[Nat.pow_zero,Nat.div_one];generalize N%m=R at *
   repeat (first|refine Tw ?_|(refine Tm ?_;intro _)|exact Tz)
theorem aaE (lo hi m:Nat) (hlo:lo<zb) (hhi:hi<zb) (hmB:m<zb) (h0:0<m):Fn Tryz.prog 188 [zf lo,zf hi,zf m] Tr (Is (.tuple #[zf ((hi*zb+lo)%m),.int .i64 0])):=by
 by_cases hm:m<18446744073709551616
 ·exact acl lo hi m hlo hhi hm h0
 ·exact acn lo hi m hlo hhi hm hmB
def wds (q:Nat):List Nat:=[wd 0 q,wd 1 q,wd 2 q,wd 3 q]
theorem bZ {T p t s:Nat} (hT:T=2*p*t) (hs:18446744073709551616=2*p*s) (hp:0<p):T%18446744073709551616+p<18446744073709551616:=by
 have hs0:0<s:=by
  rcases Nat.eq_zero_or_pos s with h|h
  ·rw[h] at hs;omega
  ·exact h
 have h1:T%18446744073709551616=2*p*(t%s):=by rw[hT,hs,Nat.mul_mod_mul_left]
 have h2:t%s+1≤s:=Nat.mod_lt _ hs0;have h3:2*p*(t%s+1)≤2*p*s:=Nat.mul_le_mul_left _ h2;rw[Nat.mul_add,Nat.mul_one] at h3;omega
theorem ac5 {q i:Nat} (hi:i<256) (hq:2 ^ (i+1) ∣ q) :
  (wds q).set (i / 64) ((wds q).getD (i / 64) 0+1*2 ^ (i%64))=wds (q+2 ^ i)∧(wds q).getD (i / 64) 0+1*2 ^ (i%64)<18446744073709551616:=by
 obtain⟨t,ht⟩:=hq;have hr:i%64<64:=Nat.mod_lt _ (by decide);have e1:2 ^ i=18446744073709551616 ^ (i / 64)*2 ^ (i%64):=by
  rw[show (18446744073709551616:Nat)=2 ^ 64 by decide,← Nat.pow_mul,← Nat.pow_add];congr 1;omega
 have e2:q=18446744073709551616 ^ (i / 64)*(2*2 ^ (i%64)*t):=by
  rw[ht,Nat.pow_succ,e1];simp only[Nat.mul_assoc,Nat.mul_left_comm,Nat.mul_comm]
 have hs:18446744073709551616=2*2 ^ (i%64)*2 ^ (63 - i%64):=by
  rw[Nat.mul_assoc,← Nat.pow_add,show i%64+(63 - i%64)=63 by omega]
 have hF:=bZ (T:=2*2 ^ (i%64)*t) rfl hs (Nat.two_pow_pos _);have hk:i / 64<4:=by omega
 rw[e1,e2];generalize 2*2 ^ (i%64)*t=T at *;generalize 2 ^ (i%64)=p at *;generalize i / 64=k at *;clear e1 e2 ht hs hr hi
 match k,hk with
 | 0,_|1,_|2,_|3,_ =>
  simp only[wds,wd,List.set_cons_zero,List.set_cons_succ,List.getD_cons_zero,List.getD_cons_succ,Nat.reducePow,List.cons.injEq,and_true];omega
 | n+4,h=>omega
theorem fR {r b m:Nat} (hr:r<m) (hb:b≤1) (hm:m<zb) :
  ((r+r) / zb=0∧vG ((r+r)%zb+b) m = -1→(2*r+b) / m=0) ∧
  ((r+r) / zb=1∨vG ((r+r)%zb+b) m=0∨vG ((r+r)%zb+b) m=1→(2*r+b) / m=1):=by
 have h0:0<m:=by omega
 have hle:(r+r)%zb≤r+r:=Nat.mod_le _ _;refine⟨fun ⟨h1,h2⟩=>?_,fun h=>?_⟩
 ·have hl:r+r<zb:=by
   rcases Nat.lt_or_ge (r+r) zb with h|h
   ·exact h
   ·have:=Nat.div_pos h zq;omega
  rw[Nat.mod_eq_of_lt hl] at h2;refine Nat.div_eq_of_lt ?_;unfold vG at h2
  split at h2
  ·simp at h2
  ·split at h2
   ·omega
   ·simp at h2
 ·have hge:m≤2*r+b:=by
   rcases h with h|h|h
   ·have:=Nat.div_mul_le_self (r+r) zb;rw[h] at this;omega
   ·unfold vG at h
    split at h
    ·omega
    ·split at h<;>simp at h
   ·unfold vG at h
    split at h
    ·omega
    ·split at h
     ·simp at h
     ·omega
  rw[Nat.div_eq_iff h0];omega
theorem aai (a b i:Nat) (hb:0<b):a / 2 ^ i / b*2 ^ i=a / 2 ^ (i+1) / b*2 ^ (i+1)+(2*(a / 2 ^ (i+1)%b)+vb a i) / b*2 ^ i:=by
 rw[sO a i];generalize a / 2 ^ (i+1)=A;have e:2*A+vb a i=b*(2*(A / b))+(2*(A%b)+vb a i):=by
  have:=Nat.div_add_mod A b;rw[Nat.mul_left_comm];omega
 rw[e,Nat.mul_add_div hb,Nat.add_mul,Nat.pow_succ];congr 1;rw[Nat.mul_comm 2,Nat.mul_assoc,Nat.mul_comm 2]
theorem adH (a b:Nat) (ha:a<18446744073709551616) (hb:b<18446744073709551616) (h0:0<b):Fn Tryz.prog 139 [zf a,zf b] Tr (Is (.tuple #[zf (a / b),zf (a%b),.int .i64 0])):=by
 have haB:=vE ha;have hbB:=vE hb;have hW1:=rU a haB;have hW2:=rU b hbB;rw[decide_eq_true ha] at hW1;rw[decide_eq_true hb] at hW2;have hne:decide (b=0)=false:=decide_eq_false (by omega);have wa:wd 0 a=a:=Nat.mod_eq_of_lt ha;have wb:wd 0 b=b:=Nat.mod_eq_of_lt hb;have q1:=qT (wd 0 a) (wd 0 b) (yg _ _);have r1:=yP (wd 0 a) (wd 0 b);have hn0:((wd 0 b:Nat):Int)≠0:=by rw[wb];omega
 rw[show a / b=wd 0 a / wd 0 b by rw[wa,wb],show a%b=wd 0 a%wd 0 b by rw[wa,wb]];have hO1:=aaQ (wd 0 a / wd 0 b) (by rw[wa,wb];exact Nat.lt_of_le_of_lt (Nat.div_le_self _ _) ha);have hO2:=aaQ (wd 0 a%wd 0 b) (by rw[wa,wb];exact Nat.lt_of_le_of_lt (Nat.mod_le _ _) ha);generalize wd 0 a / wd 0 b=Q at *;generalize wd 0 a%wd 0 b=R at *;refine Fn.enter Tryz.func139 rfl rfl rfl ?_;intro w hw
 repeat (first|refine Ta ?_|(refine Tm ?_;intro _)|refine WO.does zZ ?_|refine Tc ?_|exact Tz)
 rw[hne]
 repeat (first|refine Ta ?_|(refine Tm ?_;intro _)|refine WO.acall (hc:=hW1) (k:=?_)|refine WO.acall (hc:=hW2) (k:=?_)|refine Tc ?_|exact Tz)
 refine WC.adraw 12 (k:=?_)
 repeat (first|refine Da ?_|refine DQ.does (fun s _=>yy rfl rfl hn0 q1) Dp.const ?_|refine DQ.does (fun s _=>zP rfl rfl hn0 r1) Dp.const ?_|refine DQ.acall (hc:=hO1) (k:=?_)|refine DQ.acall (hc:=hO2) (k:=?_)|refine Dc ?_)
 refine DQ.anil (k:=?_);intro sx _
 repeat (first|refine Tw ?_|(refine Tm ?_;intro _)|exact Tz)
theorem adz (a b:Nat) (ha:a<zb) (hb:b<zb) (h0:0<b) (hs:¬ (a<18446744073709551616∧b<18446744073709551616)):Fn Tryz.prog 139 [zf a,zf b] Tr (Is (.tuple #[zf (a / b),zf (a%b),.int .i64 0])):=by
 have hW1:=rU a ha;have hW2:=rU b hb;have hne:decide (b=0)=false:=decide_eq_false (by omega);have hB1:=fun i (hi2:i<256)=>dY a i ha hi2;have hAdd:=fun (r:Nat) (hr:r<b)=>az r r (by omega) (by omega);have hCmp:=fun (y:Nat) (hy:y<zb)=>ny y b hy hb;have hSub:=fun (y:Nat) (hy:y<zb)=>fU y b hy hb;have hs1:=fun i=>sO a i;have hq1:=fun i=>aai a b i h0;have htop:a / 2 ^ 256=0:=Nat.div_eq_of_lt (by rw[← qg];exact ha);have hbt:=fun i=>u4 a i;refine Fn.enter Tryz.func139 rfl rfl rfl ?_;intro w hw
 repeat (first|refine Ta ?_|(refine Tm ?_;intro _)|refine WO.does zZ ?_|refine Tc ?_|exact Tz)
 rw[hne]
 repeat (first|refine Te ?_|(refine Tm ?_;intro _)|refine Tc ?_|exact Tz)
 rename_i g2 g3 g4 g5;refine WX.seq ?_;refine WC.joinI (σ:=Unit) (fun _=>True) (fun _=>[(2,pt g2),(3,pt g3),(4,pt g4),(5,pt g5),(6,.int .i64 0)]) (fun _=>[⟨g2,24,zc a⟩,⟨g3,24,zc b⟩,⟨g4,24,zc 0⟩,⟨g5,24,zc 0⟩]) ?_ (fun _ _=>?_)
 ·by_cases h1:a<18446744073709551616
  ·rw[decide_eq_true h1] at hW1;rw[decide_eq_false (fun h2=>hs ⟨h1,h2⟩)] at hW2
   repeat (first|refine Ta ?_|(refine Tm ?_;intro _)|refine WO.acall (hc:=hW1) (k:=?_)|refine WO.acall (hc:=hW2) (k:=?_)|refine Tc ?_|exact Tz)
   exact WX.metI () (hs:=trivial)
  ·rw[decide_eq_false h1] at hW1
   repeat (first|refine Ta ?_|(refine Tm ?_;intro _)|refine WO.acall (hc:=hW1) (k:=?_)|refine WO.acall (hc:=hW2) (k:=?_)|refine Tc ?_|exact Tz)
   exact WX.metI () (hs:=trivial)
 clear hW1 hW2 hs
 repeat (first|refine Tw ?_|(refine Tm ?_;intro _)|exact Tz)
 rename_i g7 g8;refine WC.loopI (σ:=Nat) (fun j=>j≤256) (fun j=>[(2,pt g2),(3,pt g3),(4,pt g4),(5,pt g5),(6,.int .i64 0),(7,pt g7),(8,pt g8),(9,.int .i64 ((j:Int) - 1))]) (fun j=>[⟨g2,24,zc a⟩,⟨g3,24,zc b⟩,⟨g4,24,zc 0⟩,⟨g5,24,zc 0⟩,⟨g7,24,woC (wds (a / 2 ^ j / b*2 ^ j))⟩,⟨g8,24,zc (a / 2 ^ j%b)⟩]) (fun j=>j) 256 (fun j hj=>?_) (Nat.le_refl _) (by repeat (first|exact Kle.nil|refine Kle.cons rfl rfl ?_)) (by
   rw[htop,Nat.zero_div,Nat.zero_mod,Nat.zero_mul]
   repeat (first|exact Lle.nil|refine Lle.c ?_))
 try dsimp only at hj ⊢
 cases j with
 | zero =>
  rw[Nat.pow_zero,Nat.div_one,Nat.mul_one];generalize a / b=Q at *;generalize a%b=R at *;refine WC.keep [(2,pt g2),(3,pt g3),(4,pt g4),(5,pt g5),(6,.int .i64 0),(7,pt g7),(8,pt g8),(9,.int .i64 (((0:Nat):Int) - 1))] [⟨g2,24,zc a⟩,⟨g3,24,zc b⟩,⟨g4,24,zc 0⟩,⟨g5,24,zc 0⟩,⟨g7,24,zc Q⟩,⟨g8,24,zc R⟩] ?_
  repeat (first|refine Tw ?_|(refine Tm ?_;intro _)|exact Tz)
  refine WC.adrawS [1] [(1,[⟨g8,24,zc R⟩])] 2 (k:=?_)
  repeat (first|refine DQS.skip ?_|refine DQS.autoM (k:=?_)|refine DQS.autoH (k:=?_)|refine DQS.auto (k:=?_)|refine DQS.autoF (k:=?_)|refine DQS.does (fun s _=>zZ) Dp.const ?_|refine DQS.does (fun s _=>z7) Dp.const ?_)
  refine DQS.anil (k:=?_);intro sx _
  repeat (first|refine WOS.autoS (kk:=?_)|refine WOS.auto (kk:=?_))
  refine WOS.nil ?_;refine WX.noPanic ?_
  repeat (first|refine Tw ?_|(refine Tm ?_;intro _)|exact Tz)
 | succ i =>
  have hr:a / 2 ^ (i+1)%b<b:=Nat.mod_lt _ h0;have h1:=hB1 i (by omega);have hA:=hAdd _ hr;have hc:=qP hr (hbt i) hb;have hd:=fR hr (hbt i) hb;have hm:(2*(a / 2 ^ (i+1)%b)+vb a i)%b=a / 2 ^ i%b:=by rw[pe,← hs1 i]
  rw[hm] at hc;have hq:=hq1 i;have hdv:2 ^ (i+1) ∣ a / 2 ^ (i+1) / b*2 ^ (i+1):=Nat.dvd_mul_left _ _;obtain⟨hset,hlt⟩:=ac5 (by omega:i<256) hdv;have hXl:(a / 2 ^ (i+1)%b+a / 2 ^ (i+1)%b)%zb<zb:=Nat.mod_lt _ zq;obtain⟨w0,e0,e1,e2,e3,hY⟩:=pT hXl (om _) (hbt i);have hC:=hCmp _ hY;have hS:=hSub _ hY;have ha1:=uy (wd 0 ((a / 2 ^ (i+1)%b+a / 2 ^ (i+1)%b)%zb)) (vb a i) w0;rw[← e0] at ha1;have hq64:=ra i 64 (by omega);have hr64:=yP i 64;have hsh:=eL 1 (i%64) (by omega) (by omega);have ha2:=uy ((wds (a / 2 ^ (i+1) / b*2 ^ (i+1))).getD (i / 64) 0) (1*2 ^ (i%64)) hlt;have hwl:(wds (a / 2 ^ (i+1) / b*2 ^ (i+1))).length=4:=rfl;rw[show (((i+1:Nat):Int) - 1)=(i:Int) by omega];clear hs1 hq1 htop hbt hB1 hAdd hCmp hSub hm hdv hlt w0 hne;generalize (2*(a / 2 ^ (i+1)%b)+vb a i) / b=dq at *;generalize hRo:a / 2 ^ (i+1)%b=R at *;generalize hRn:a / 2 ^ i%b=R' at *;generalize hQn:a / 2 ^ i / b*2 ^ i=Q' at *;generalize hQo:a / 2 ^ (i+1) / b*2 ^ (i+1)=Q at *;generalize vb a i=bt at *;generalize (R+R) / zb=c at *;generalize ((R+R)%zb+bt+zb - b)%zb=y at *;generalize bw ((R+R)%zb+bt) b 0=l at *;generalize (R+R)%zb+bt=Y at *;generalize (R+R)%zb=X at *;generalize hW0:wds Q=W at *;simp only[zf] at hA;rw[← e1,← e2,← e3] at hA
  rcases hc with ⟨rfl,h2,rfl⟩|⟨rfl,rfl⟩|⟨rfl,h2|h2,rfl⟩
  ·have hq' : Q'=Q:=by rw[hq,hd.1 ⟨rfl,h2⟩,Nat.zero_mul,Nat.add_zero]
   rw[h2] at hC
   repeat (first|refine Ta ?_|(refine Tm ?_;intro _)|refine WO.acall (hc:=hA) (k:=?_)|refine Tc ?_|exact Tz)
   refine WC.adraw 7 (k:=?_)
   repeat (first|refine Da ?_|refine DQ.acall (hc:=h1) (k:=?_)|refine DQ.does (fun s _=>zh rfl rfl ha1) Dp.const ?_|refine Dc ?_)
   refine DQ.anil (k:=?_);intro sx _
   repeat (first|refine Ta ?_|(refine Tm ?_;intro _)|refine WO.acall (hc:=hC) (k:=?_)|refine WO.acall (hc:=hS) (k:=?_)|refine Tc ?_|exact Tz)
   refine WX.metI i (hl:=(by repeat (first|exact Lle.nil|refine Lle.cons Pk.a (by first|rfl|(rw[hRn])|(rw[hQn,hq',hW0])) ?_))) (hs:=⟨by omega,by show i<i+1;omega⟩)
  ·have hq' : Q'=Q+2 ^ i:=by rw[hq,hd.2 (.inl rfl),Nat.one_mul]
   repeat (first|refine Ta ?_|(refine Tm ?_;intro _)|refine WO.acall (hc:=hA) (k:=?_)|refine Tc ?_|exact Tz)
   refine WC.adraw 7 (k:=?_)
   repeat (first|refine Da ?_|refine DQ.acall (hc:=h1) (k:=?_)|refine DQ.does (fun s _=>zh rfl rfl ha1) Dp.const ?_|refine Dc ?_)
   refine DQ.anil (k:=?_);intro sx _
   repeat (first|refine Ta ?_|(refine Tm ?_;intro _)|refine WO.acall (hc:=hC) (k:=?_)|refine WO.acall (hc:=hS) (k:=?_)|refine Tc ?_|exact Tz)
   refine WC.adraw 11 (k:=?_)
   repeat (first|refine Da ?_|refine DQ.does (fun s _=>yy rfl rfl (by decide) hq64) Dp.const ?_|refine DQ.does (fun s _=>tF (hi:=by omega)) Dp.const ?_|refine DQ.does (fun s _=>zP rfl rfl (by decide) hr64) Dp.const ?_|refine DQ.does (fun s _=>uN rfl rfl (by omega) hsh) Dp.const ?_|refine DQ.does (fun s _=>zh rfl rfl ha2) Dp.const ?_|refine Dc ?_)
   refine DQ.anil (k:=?_);intro sx _
   repeat (first|refine Ta ?_|(refine Tm ?_;intro _)|refine WO.stores (sh (hi:=by omega)) ?_|refine Tc ?_|exact Tz)
   rw[hset];refine WX.metI i (hl:=(by repeat (first|exact Lle.nil|refine Lle.cons Pk.a (by first|rfl|(rw[hRn])|(rw[hQn,hq'])) ?_))) (hs:=⟨by omega,by show i<i+1;omega⟩)
  ·have hq' : Q'=Q+2 ^ i:=by rw[hq,hd.2 (.inr (.inl h2)),Nat.one_mul]
   rw[h2] at hC
   repeat (first|refine Ta ?_|(refine Tm ?_;intro _)|refine WO.acall (hc:=hA) (k:=?_)|refine Tc ?_|exact Tz)
   refine WC.adraw 7 (k:=?_)
   repeat (first|refine Da ?_|refine DQ.acall (hc:=h1) (k:=?_)|refine DQ.does (fun s _=>zh rfl rfl ha1) Dp.const ?_|refine Dc ?_)
   refine DQ.anil (k:=?_);intro sx _
   repeat (first|refine Ta ?_|(refine Tm ?_;intro _)|refine WO.acall (hc:=hC) (k:=?_)|refine WO.acall (hc:=hS) (k:=?_)|refine Tc ?_|exact Tz)
   refine WC.adraw 11 (k:=?_)
   repeat (first|refine Da ?_|refine DQ.does (fun s _=>yy rfl rfl (by decide) hq64) Dp.const ?_|refine DQ.does (fun s _=>tF (hi:=by omega)) Dp.const ?_|refine DQ.does (fun s _=>zP rfl rfl (by decide) hr64) Dp.const ?_|refine DQ.does (fun s _=>uN rfl rfl (by omega) hsh) Dp.const ?_|refine DQ.does (fun s _=>zh rfl rfl ha2) Dp.const ?_|refine Dc ?_)
   refine DQ.anil (k:=?_);intro sx _
   repeat (first|refine Ta ?_|(refine Tm ?_;intro _)|refine WO.stores (sh (hi:=by omega)) ?_|refine Tc ?_|exact Tz)
   rw[hset];refine WX.metI i (hl:=(by repeat (first|exact Lle.nil|refine Lle.cons Pk.a (by first|rfl|(rw[hRn])|(rw[hQn,hq'])) ?_))) (hs:=⟨by omega,by show i<i+1;omega⟩)
  ·have hq' : Q'=Q+2 ^ i:=by rw[hq,hd.2 (.inr (.inr h2)),Nat.one_mul]
   rw[h2] at hC
   repeat (first|refine Ta ?_|(refine Tm ?_;intro _)|refine WO.acall (hc:=hA) (k:=?_)|refine Tc ?_|exact Tz)
   refine WC.adraw 7 (k:=?_)
   repeat (first|refine Da ?_|refine DQ.acall (hc:=h1) (k:=?_)|refine DQ.does (fun s _=>zh rfl rfl ha1) Dp.const ?_|refine Dc ?_)
   refine DQ.anil (k:=?_);intro sx _
   repeat (first|refine Ta ?_|(refine Tm ?_;intro _)|refine WO.acall (hc:=hC) (k:=?_)|refine WO.acall (hc:=hS) (k:=?_)|refine Tc ?_|exact Tz)
   refine WC.adraw 11 (k:=?_)
   repeat (first|refine Da ?_|refine DQ.does (fun s _=>yy rfl rfl (by decide) hq64) Dp.const ?_|refine DQ.does (fun s _=>tF (hi:=by omega)) Dp.const ?_|refine DQ.does (fun s _=>zP rfl rfl (by decide) hr64) Dp.const ?_|refine DQ.does (fun s _=>uN rfl rfl (by omega) hsh) Dp.const ?_|refine DQ.does (fun s _=>zh rfl rfl ha2) Dp.const ?_|refine Dc ?_)
   refine DQ.anil (k:=?_);intro sx _
   repeat (first|refine Ta ?_|(refine Tm ?_;intro _)|refine WO.stores (sh (hi:=by omega)) ?_|refine Tc ?_|exact Tz)
   rw[hset];refine WX.metI i (hl:=(by repeat (first|exact Lle.nil|refine Lle.cons Pk.a (by first|rfl|(rw[hRn])|(rw[hQn,hq'])) ?_))) (hs:=⟨by omega,by show i<i+1;omega⟩)
theorem aZ (a b:Nat) (ha:a<zb) (hb:b<zb) (h0:0<b):Fn Tryz.prog 139 [zf a,zf b] Tr (Is (.tuple #[zf (a / b),zf (a%b),.int .i64 0])):=by
 by_cases h:a<18446744073709551616∧b<18446744073709551616
 ·exact adH a b h.1 h.2 h0
 ·exact adz a b ha hb h0 h
theorem bi (a b:Nat) (ha:a<zb) (hb:b<zb):Fn Tryz.prog 216 [zf a,zf b] Tr (Is (zf (Nat.gcd a b))):=by
 have hD:=fun (x y:Nat) hx hy h0=>aZ x y hx hy h0;refine Fn.enter Tryz.func216 rfl rfl rfl ?_;intro w hw
 repeat (first|refine Tw ?_|(refine Tm ?_;intro _)|exact Tz)
 rename_i g2 g3 g4;refine WC.loopI (σ:=Nat × Nat) (fun s=>s.1<zb∧s.2<zb∧Nat.gcd s.1 s.2=Nat.gcd a b) (fun s=>[(2,pt g2),(3,pt g3),(4,pt g4)]) (fun s=>[⟨g2,24,zc s.1⟩,⟨g3,24,zc s.2⟩,⟨g4,24,zc 0⟩]) (fun s=>s.2) (a,b) (fun s hs=>?_) ⟨ha,hb,rfl⟩;obtain⟨x,y⟩:=s;obtain⟨hx,hy,hg⟩:=hs;dsimp only at hx hy hg ⊢
 by_cases h:y=0
 ·have d:decide (y≠0)=false:=by simpa using h
  rw[← hg,h,Nat.gcd_zero_right];rw[h] at d
  repeat (first|refine Ta ?_|(refine Tm ?_;intro _)|refine WO.does z7 ?_|refine Tc ?_|exact Tz)
 ·have d:decide (y≠0)=true:=by simpa using h
  have h1:=hD x y hx hy (by omega);have hm:x%y<y:=Nat.mod_lt _ (by omega);have hgg:Nat.gcd y (x%y)=Nat.gcd x y:=by rw[Nat.gcd_comm x y,Nat.gcd_rec y x,Nat.gcd_comm]
  generalize x%y=r at *;generalize x / y=q at *
  repeat (first|refine Ta ?_|(refine Tm ?_;intro _)|refine WO.does z7 ?_|refine Tc ?_|exact Tz)
  rw[d]
  repeat (first|refine Ta ?_|(refine Tm ?_;intro _)|refine WO.acall (hc:=h1) (k:=?_)|refine Tc ?_|exact Tz)
  refine WX.metI (y,r) (hs:=⟨⟨hy,by show r<zb;omega,by rw[← hg];exact hgg⟩,hm⟩)
theorem sG:Fn Tryz.prog 134 [.int .u64 1] Tr (Is (zf 1)):=aaQ 1 (by decide)
theorem dt (a b m:Nat) (ha:a<zb) (hb:b<zb) (hm:m<zb):Fn Tryz.prog 132 [zf a,zf b,zf m] Tr (Is (.bool (zD a b m))):=by
 have hC1:=ny m 1 hm yA;have hC2:=ny a m ha hm;have hC3:=ny b m hb hm
 rcases oH a b m with ⟨h1,h2,h3,hy,e1,e2,e3⟩|⟨hn,hc⟩
 ·rw[hy];rw[e1] at hC1;rw[e2] at hC2;rw[e3] at hC3;refine Fn.enter Tryz.func132 rfl rfl rfl ?_;intro w hw
  repeat (first|refine Tw ?_|(refine Tm ?_;intro _)|exact Tz)
  refine WC.adraw 17 (k:=?_)
  repeat (first|refine Da ?_|refine DQ.acall (hc:=sG) (k:=?_)|refine DQ.acall (hc:=hC1) (k:=?_)|refine DQ.acall (hc:=hC2) (k:=?_)|refine DQ.acall (hc:=hC3) (k:=?_)|refine Dc ?_)
  refine DQ.anil (k:=?_);intro sx _
  repeat (first|refine Tw ?_|(refine Tm ?_;intro _)|exact Tz)
 ·rw[hn]
  rcases hc with (e1|e1)|⟨e1,e2|e2⟩|⟨e1,e2,e3|e3⟩
  ·rw[e1] at hC1;refine Fn.enter Tryz.func132 rfl rfl rfl ?_;intro w hw
   repeat (first|refine Tw ?_|(refine Tm ?_;intro _)|exact Tz)
   refine WC.adraw 17 (k:=?_)
   repeat (first|refine Da ?_|refine DQ.acall (hc:=sG) (k:=?_)|refine DQ.acall (hc:=hC1) (k:=?_)|refine DQ.acall (hc:=hC2) (k:=?_)|refine DQ.acall (hc:=hC3) (k:=?_)|refine Dc ?_)
   refine DQ.anil (k:=?_);intro sx _
   repeat (first|refine Tw ?_|(refine Tm ?_;intro _)|exact Tz)
  ·rw[e1] at hC1;refine Fn.enter Tryz.func132 rfl rfl rfl ?_;intro w hw
   repeat (first|refine Tw ?_|(refine Tm ?_;intro _)|exact Tz)
   refine WC.adraw 17 (k:=?_)
   repeat (first|refine Da ?_|refine DQ.acall (hc:=sG) (k:=?_)|refine DQ.acall (hc:=hC1) (k:=?_)|refine DQ.acall (hc:=hC2) (k:=?_)|refine DQ.acall (hc:=hC3) (k:=?_)|refine Dc ?_)
   refine DQ.anil (k:=?_);intro sx _
   repeat (first|refine Tw ?_|(refine Tm ?_;intro _)|exact Tz)
  ·rw[e1] at hC1;rw[e2] at hC2;refine Fn.enter Tryz.func132 rfl rfl rfl ?_;intro w hw
   repeat (first|refine Tw ?_|(refine Tm ?_;intro _)|exact Tz)
   refine WC.adraw 17 (k:=?_)
   repeat (first|refine Da ?_|refine DQ.acall (hc:=sG) (k:=?_)|refine DQ.acall (hc:=hC1) (k:=?_)|refine DQ.acall (hc:=hC2) (k:=?_)|refine DQ.acall (hc:=hC3) (k:=?_)|refine Dc ?_)
   refine DQ.anil (k:=?_);intro sx _
   repeat (first|refine Tw ?_|(refine Tm ?_;intro _)|exact Tz)
  ·rw[e1] at hC1;rw[e2] at hC2;refine Fn.enter Tryz.func132 rfl rfl rfl ?_;intro w hw
   repeat (first|refine Tw ?_|(refine Tm ?_;intro _)|exact Tz)
   refine WC.adraw 17 (k:=?_)
   repeat (first|refine Da ?_|refine DQ.acall (hc:=sG) (k:=?_)|refine DQ.acall (hc:=hC1) (k:=?_)|refine DQ.acall (hc:=hC2) (k:=?_)|refine DQ.acall (hc:=hC3) (k:=?_)|refine Dc ?_)
   refine DQ.anil (k:=?_);intro sx _
   repeat (first|refine Tw ?_|(refine Tm ?_;intro _)|exact Tz)
  ·rw[e1] at hC1;rw[e2] at hC2;rw[e3] at hC3;refine Fn.enter Tryz.func132 rfl rfl rfl ?_;intro w hw
   repeat (first|refine Tw ?_|(refine Tm ?_;intro _)|exact Tz)
   refine WC.adraw 17 (k:=?_)
   repeat (first|refine Da ?_|refine DQ.acall (hc:=sG) (k:=?_)|refine DQ.acall (hc:=hC1) (k:=?_)|refine DQ.acall (hc:=hC2) (k:=?_)|refine DQ.acall (hc:=hC3) (k:=?_)|refine Dc ?_)
   refine DQ.anil (k:=?_);intro sx _
   repeat (first|refine Tw ?_|(refine Tm ?_;intro _)|exact Tz)
  ·rw[e1] at hC1;rw[e2] at hC2;rw[e3] at hC3;refine Fn.enter Tryz.func132 rfl rfl rfl ?_;intro w hw
   repeat (first|refine Tw ?_|(refine Tm ?_;intro _)|exact Tz)
   refine WC.adraw 17 (k:=?_)
   repeat (first|refine Da ?_|refine DQ.acall (hc:=sG) (k:=?_)|refine DQ.acall (hc:=hC1) (k:=?_)|refine DQ.acall (hc:=hC2) (k:=?_)|refine DQ.acall (hc:=hC3) (k:=?_)|refine Dc ?_)
   refine DQ.anil (k:=?_);intro sx _
   repeat (first|refine Tw ?_|(refine Tm ?_;intro _)|exact Tz)
theorem ada (a b m:Nat) (ha:a<zb) (hb:b<zb) (hm:m<zb):Fn Tryz.prog 194 [zf a,zf b,zf m] Tr (Is (rE (zD a b m) ((a+b)%m))):=by
 have hY:=dt a b m ha hb hm;cases hy:zD a b m with
 | false =>
  rw[hy] at hY;generalize (a+b)%m=R at *;refine Fn.enter Tryz.func194 rfl rfl rfl ?_;intro w hw
  repeat (first|refine Ta ?_|(refine Tm ?_;intro _)|refine WO.acall (hc:=hY) (k:=?_)|refine Tc ?_|exact Tz)
 | true =>
  rw[hy] at hY;obtain⟨h1,h2,h3⟩:=zK hy;have hc:=oF h2 h3 hm;have hA:=az a b ha hb;have hC:=ny ((a+b)%zb) m (Nat.mod_lt _ zq) hm;have hS:=fU ((a+b)%zb) m (Nat.mod_lt _ zq) hm;have hcmp:∀ x,(bw x m 0=1→vG x m = -1)∧(bw x m 0=0→vG x m=0∨vG x m=1):=fun x=>by
   unfold bw
   by_cases h:x<m+0
   ·rw[if_pos h];exact⟨fun _=>tJ (by omega),fun h=>by omega⟩
   ·rw[if_neg h];refine⟨fun h=>by omega,fun _=>?_⟩
    rcases Nat.lt_or_ge m x with h1|h1
    ·exact .inr (uL h1)
    ·exact .inl (tK (by omega))
  have hcx:=hcmp ((a+b)%zb);clear hcmp;generalize (a+b)%m=R at *;generalize (a+b) / zb=c at *;generalize ((a+b)%zb+zb - m)%zb=y at *;generalize bw ((a+b)%zb) m 0=l at *;generalize (a+b)%zb=X at *
  rcases hc with ⟨rfl,hl,rfl⟩|⟨rfl,rfl⟩|⟨rfl,hl,rfl⟩
  ·rw[hcx.1 hl] at hC;refine Fn.enter Tryz.func194 rfl rfl rfl ?_;intro w hw
   repeat (first|refine Ta ?_|(refine Tm ?_;intro _)|refine WO.acall (hc:=hY) (k:=?_)|refine WO.acall (hc:=hA) (k:=?_)|refine WO.acall (hc:=hC) (k:=?_)|refine WO.acall (hc:=hS) (k:=?_)|refine Tc ?_|exact Tz)
  ·refine Fn.enter Tryz.func194 rfl rfl rfl ?_;intro w hw
   repeat (first|refine Ta ?_|(refine Tm ?_;intro _)|refine WO.acall (hc:=hY) (k:=?_)|refine WO.acall (hc:=hA) (k:=?_)|refine WO.acall (hc:=hC) (k:=?_)|refine WO.acall (hc:=hS) (k:=?_)|refine Tc ?_|exact Tz)
  ·rcases hcx.2 hl with e|e
   ·rw[e] at hC;refine Fn.enter Tryz.func194 rfl rfl rfl ?_;intro w hw
    repeat (first|refine Ta ?_|(refine Tm ?_;intro _)|refine WO.acall (hc:=hY) (k:=?_)|refine WO.acall (hc:=hA) (k:=?_)|refine WO.acall (hc:=hC) (k:=?_)|refine WO.acall (hc:=hS) (k:=?_)|refine Tc ?_|exact Tz)
   ·rw[e] at hC;refine Fn.enter Tryz.func194 rfl rfl rfl ?_;intro w hw
    repeat (first|refine Ta ?_|(refine Tm ?_;intro _)|refine WO.acall (hc:=hY) (k:=?_)|refine WO.acall (hc:=hA) (k:=?_)|refine WO.acall (hc:=hC) (k:=?_)|refine WO.acall (hc:=hS) (k:=?_)|refine Tc ?_|exact Tz)
theorem aaC (a b m:Nat) (ha:a<zb) (hb:b<zb) (hm:m<zb):Fn Tryz.prog 146 [zf a,zf b,zf m] Tr (Is (rE (zD a b m) ((a+m - b)%m))):=by
 have hY:=dt a b m ha hb hm;cases hy:zD a b m with
 | false =>
  rw[hy] at hY;generalize (a+m - b)%m=R at *;refine Fn.enter Tryz.func146 rfl rfl rfl ?_;intro w hw
  repeat (first|refine Ta ?_|(refine Tm ?_;intro _)|refine WO.acall (hc:=hY) (k:=?_)|refine Tc ?_|exact Tz)
 | true =>
  rw[hy] at hY;obtain⟨h1,h2,h3⟩:=zK hy;have hc:=oL h2 h3 hm;have hS:=fU a b ha hb;have hA:=az ((a+zb - b)%zb) m (Nat.mod_lt _ zq) hm;generalize (a+m - b)%m=R at *;generalize ((a+zb - b)%zb+m) / zb=c at *;generalize ((a+zb - b)%zb+m)%zb=y at *;generalize bw a b 0=l at *;generalize (a+zb - b)%zb=X at *
  rcases hc with ⟨rfl,rfl⟩|⟨rfl,rfl⟩
  all_goals
   refine Fn.enter Tryz.func146 rfl rfl rfl ?_;intro w hw
   repeat (first|refine Ta ?_|(refine Tm ?_;intro _)|refine WO.acall (hc:=hY) (k:=?_)|refine WO.acall (hc:=hS) (k:=?_)|refine WO.acall (hc:=hA) (k:=?_)|refine Tc ?_|exact Tz)
theorem kt (a b m:Nat) (ha:a<m) (hb:b<m) (hm:m<zb):Fn Tryz.prog 137 [zf a,zf b,zf m] Tr (Is (zf (a*b%m))):=by
 have hW:=rU m hm
 by_cases hs:m<18446744073709551616
 ·rw[decide_eq_true hs] at hW;have wa:wd 0 a=a:=Nat.mod_eq_of_lt (by omega);have wb:wd 0 b=b:=Nat.mod_eq_of_lt (by omega);have wm:wd 0 m=m:=Nat.mod_eq_of_lt hs;have hM:=eb a b (by omega) (by omega);have hq:a*b / 18446744073709551616<m:=by
   rw[Nat.div_lt_iff_lt_mul (by decide)];exact Nat.lt_of_le_of_lt (Nat.mul_le_mul_right b (Nat.le_of_lt ha)) (by
    have:m*b<m*18446744073709551616:=Nat.mul_lt_mul_of_pos_left (by omega) (by omega);exact this)
  have hD:=lY (a*b / 18446744073709551616) (a*b%18446744073709551616) m (Nat.mod_lt _ (by decide)) hs hq;rw[show a*b / 18446744073709551616*18446744073709551616+a*b%18446744073709551616=a*b by rw[Nat.mul_comm];exact Nat.div_add_mod _ _] at hD;have hO:=aaQ (a*b%m) (Nat.lt_trans (Nat.mod_lt _ (by omega)) hs);generalize a*b / m=q at *;generalize a*b%m=R at *;generalize a*b / 18446744073709551616=u at *;generalize a*b%18446744073709551616=v at *;rw[← wa,← wb] at hM;rw[← wm] at hD;refine Fn.enter Tryz.func137 rfl rfl rfl ?_;intro w hw
  repeat (first|refine Ta ?_|(refine Tm ?_;intro _)|refine WO.acall (hc:=hW) (k:=?_)|refine WO.acall (hc:=hM) (k:=?_)|refine WO.acall (hc:=hD) (k:=?_)|refine WO.acall (hc:=hO) (k:=?_)|refine Tc ?_|exact Tz)
 ·rw[decide_eq_false hs] at hW;have hM:=ad6 a b (by omega) (by omega);have hV:=aaE (a*b%zb) (a*b / zb) m (Nat.mod_lt _ zq) (by
   rw[Nat.div_lt_iff_lt_mul zq];exact Nat.lt_of_le_of_lt (Nat.mul_le_mul_left a (Nat.le_of_lt (Nat.lt_trans hb hm))) (Nat.mul_lt_mul_of_pos_right (by omega) zq)) hm (by omega)
  rw[show a*b / zb*zb+a*b%zb=a*b by rw[Nat.mul_comm];exact Nat.div_add_mod _ _] at hV;generalize a*b%m=R at *;generalize a*b / zb=u at *;generalize a*b%zb=v at *;refine Fn.enter Tryz.func137 rfl rfl rfl ?_;intro w hw
  repeat (first|refine Ta ?_|(refine Tm ?_;intro _)|refine WO.acall (hc:=hW) (k:=?_)|refine WO.acall (hc:=hM) (k:=?_)|refine WO.acall (hc:=hV) (k:=?_)|refine Tc ?_|exact Tz)
theorem fO (a b m:Nat) (ha:a<zb) (hb:b<zb) (hm:m<zb):Fn Tryz.prog 144 [zf a,zf b,zf m] Tr (Is (rE (zD a b m) (a*b%m))):=by
 have hY:=dt a b m ha hb hm;cases hy:zD a b m with
 | false =>
  rw[hy] at hY;generalize a*b%m=R at *;refine Fn.enter Tryz.func144 rfl rfl rfl ?_;intro w hw
  repeat (first|refine Ta ?_|(refine Tm ?_;intro _)|refine WO.acall (hc:=hY) (k:=?_)|refine Tc ?_|exact Tz)
 | true =>
  rw[hy] at hY;obtain⟨h1,h2,h3⟩:=zK hy;have hT:=kt a b m h2 h3 hm;generalize a*b%m=R at *;refine Fn.enter Tryz.func144 rfl rfl rfl ?_;intro w hw
  repeat (first|refine Ta ?_|(refine Tm ?_;intro _)|refine WO.acall (hc:=hY) (k:=?_)|refine WO.acall (hc:=hT) (k:=?_)|refine Tc ?_|exact Tz)
end Sx
end
end Go.Proofs.YtbbppkkhidkjpaaGreatDoor
