/- Part 25 of the proof. -/
import Derived.Test.YtiiefkchpicncaaGreatDoorB22
import Derived.RangeFuncLeaves
set_option linter.unusedSimpArgs false
set_option linter.unusedVariables false
set_option maxHeartbeats 8000000
namespace Go.Proofs.YtiiefkchpicncaaGreatDoor
section
open Go Go.RowKit
namespace Sx
attribute [local irreducible] DQ WC WO WT WX wd
theorem aih {r s m:Nat} (hs:1<s) (hr:r≤m) (hm:1<m):r / s<m:=Nat.lt_of_le_of_lt (Nat.div_le_div_right hr) (Nat.div_lt_self Om hs)
theorem agJ (a m:Nat) (h1:1<m) (ha:a<m) (hm:m<zd):Fn Tryz.prog 190 [zk a,zk a,zk m] Tr (Is (zk (yX a m))):=by
 have haB:a<zd:=by omega
 have hG:=abY a m haB hm;have hgB:Nat.gcd a m<zd:=Nat.lt_of_le_of_lt (Nat.gcd_le_right _ Om) hm
 by_cases hg:Nat.gcd a m=1
 ·have hne:¬ (Nat.gcd a m≠1):=fun h=>h hg;have hinv:yX a m=eS m m a 0 1:=by unfold yX;rw[if_pos hg]
  have h0:0<a:=by
   rcases Nat.eq_zero_or_pos a with h|h
   ·subst h;rw[Nat.gcd_zero_left] at hg;omega
   ·exact h
  have hgm:Nat.gcd m a=1:=by rw[Nat.gcd_comm];exact hg
  rw[hinv];refine Fn.enter Tryz.func190 rfl rfl rfl ?_;intro w hw
  repeat (first|refine Ta ?_|(refine Tm ?_;intro _)|refine WO.acall (hc:=hG) (k:=?_)|refine WO.acall (hc:=ud) (k:=?_)|refine Tc ?_|exact Tz)
  refine WC.dF rfl hne ?_
  repeat (first|refine Tw ?_|(refine Tm ?_;intro _)|exact Tz)
  rename_i g3 g4 g5 g6;refine WC.mainA [4,5,6,7,8,9,10,11] [(0,zk m),(1,zk a),(2,zk 0),(3,zk 1)] (by decide) (fun A hA=>?_);refine WT.given [(3,pt g3),(5,pt g5),(6,pt g6)] [⟨g3,24,zc a⟩,⟨g5,24,zc m⟩] (by kernel_rfl) (Tlv.a (Tlv.a (Tlv.call mo (fun _ _=>trivial) (Tlv.call ud (fun _ _=>trivial) (Tlv.nil))))) (fun hc hT=>?_)
  suffices hS4080:∀ q4 q5 q6 q7,A [11,10,9,8,7,6,5,4] [(7,pt q4),(8,pt q5),(9,pt q6),(10,pt q7),(3,pt g3),(5,pt g5),(6,pt g6)] [⟨q4,24,zc m⟩,⟨q5,24,zc a⟩,⟨q6,24,zc 0⟩,⟨q7,24,zc 1⟩,⟨g3,24,zc a⟩,⟨g5,24,zc m⟩,⟨g6,24,zc 0⟩] by
   have hS2032:∀ q4 q5 q6 q7,A [10,9,8,7,6,5,4] [(7,pt q4),(8,pt q5),(9,pt q6),(10,pt q7),(3,pt g3),(5,pt g5),(6,pt g6)] [⟨q4,24,zc m⟩,⟨q5,24,zc a⟩,⟨q6,24,zc 0⟩,⟨q7,24,zc 0⟩,⟨g3,24,zc a⟩,⟨g5,24,zc m⟩,⟨g6,24,zc 0⟩]:=by
    intro q4 q5 q6 q7;refine (hA _ _ _).2 (WT.step [11] (by decide) hc hT ⟨⟨_,rfl,?_⟩,trivial⟩)
    ·refine Tw ?_;exact WT.go [] hA (hS4080 q4 q5 q6 q7)
   have hS1008:∀ q4 q5 q6 q7,A [9,8,7,6,5,4] [(7,pt q4),(8,pt q5),(9,pt q6),(10,pt q7),(3,pt g3),(5,pt g5),(6,pt g6)] [⟨q4,24,zc m⟩,⟨q5,24,zc a⟩,⟨q6,24,zc 0⟩,⟨q7,24,zc 0⟩,⟨g3,24,zc a⟩,⟨g5,24,zc m⟩,⟨g6,24,zc 0⟩]:=by
    intro q4 q5 q6 q7;refine (hA _ _ _).2 (WT.step [10] (by decide) hc hT ⟨⟨_,rfl,?_⟩,trivial⟩)
    ·refine Tw ?_;exact WT.go [] hA (hS2032 q4 q5 q6 q7)
   have hS496:∀ q4 q5 q6 q7,A [8,7,6,5,4] [(7,pt q4),(8,pt q5),(9,pt q6),(10,pt q7),(3,pt g3),(5,pt g5),(6,pt g6)] [⟨q4,24,zc m⟩,⟨q5,24,zc 0⟩,⟨q6,24,zc 0⟩,⟨q7,24,zc 0⟩,⟨g3,24,zc a⟩,⟨g5,24,zc m⟩,⟨g6,24,zc 0⟩]:=by
    intro q4 q5 q6 q7;refine (hA _ _ _).2 (WT.step [9] (by decide) hc hT ⟨⟨_,rfl,?_⟩,trivial⟩)
    ·refine Tw ?_;exact WT.go [] hA (hS1008 q4 q5 q6 q7)
   have hS240:∀ q4 q5 q6 q7,A [7,6,5,4] [(7,pt q4),(8,pt q5),(9,pt q6),(10,pt q7),(3,pt g3),(5,pt g5),(6,pt g6)] [⟨q4,24,zc 0⟩,⟨q5,24,zc 0⟩,⟨q6,24,zc 0⟩,⟨q7,24,zc 0⟩,⟨g3,24,zc a⟩,⟨g5,24,zc m⟩,⟨g6,24,zc 0⟩]:=by
    intro q4 q5 q6 q7;refine (hA _ _ _).2 (WT.step [8] (by decide) hc hT ⟨⟨_,rfl,?_⟩,trivial⟩)
    ·refine Tw ?_;exact WT.go [] hA (hS496 q4 q5 q6 q7)
   have hS112:∀ q4 q5 q6,A [6,5,4] [(7,pt q4),(8,pt q5),(9,pt q6),(3,pt g3),(5,pt g5),(6,pt g6)] [⟨q4,24,zc 0⟩,⟨q5,24,zc 0⟩,⟨q6,24,zc 0⟩,⟨g3,24,zc a⟩,⟨g5,24,zc m⟩,⟨g6,24,zc 0⟩]:=by
    intro q4 q5 q6;refine (hA _ _ _).2 (WT.step [7] (by decide) hc hT ⟨⟨_,rfl,?_⟩,trivial⟩)
    ·(refine WO.autoM (k:=?_);intro q7);exact WT.go [(10,pt q7)] hA (hS240 q4 q5 q6 q7)
   have hS176:∀ q4 q5 q7,A [7,5,4] [(7,pt q4),(8,pt q5),(10,pt q7),(3,pt g3),(5,pt g5),(6,pt g6)] [⟨q4,24,zc 0⟩,⟨q5,24,zc 0⟩,⟨q7,24,zc 0⟩,⟨g3,24,zc a⟩,⟨g5,24,zc m⟩,⟨g6,24,zc 0⟩]:=by
    intro q4 q5 q7;refine (hA _ _ _).2 (WT.step [6] (by decide) hc hT ⟨⟨_,rfl,?_⟩,trivial⟩)
    ·(refine WO.autoM (k:=?_);intro q6);exact WT.go [(9,pt q6)] hA (hS240 q4 q5 q6 q7)
   have hS208:∀ q4 q6 q7,A [7,6,4] [(7,pt q4),(9,pt q6),(10,pt q7),(3,pt g3),(5,pt g5),(6,pt g6)] [⟨q4,24,zc 0⟩,⟨q6,24,zc 0⟩,⟨q7,24,zc 0⟩,⟨g3,24,zc a⟩,⟨g5,24,zc m⟩,⟨g6,24,zc 0⟩]:=by
    intro q4 q6 q7;refine (hA _ _ _).2 (WT.step [5] (by decide) hc hT ⟨⟨_,rfl,?_⟩,trivial⟩)
    ·(refine WO.autoM (k:=?_);intro q5);exact WT.go [(8,pt q5)] hA (hS240 q4 q5 q6 q7)
   have hS224:∀ q5 q6 q7,A [7,6,5] [(8,pt q5),(9,pt q6),(10,pt q7),(3,pt g3),(5,pt g5),(6,pt g6)] [⟨q5,24,zc 0⟩,⟨q6,24,zc 0⟩,⟨q7,24,zc 0⟩,⟨g3,24,zc a⟩,⟨g5,24,zc m⟩,⟨g6,24,zc 0⟩]:=by
    intro q5 q6 q7;refine (hA _ _ _).2 (WT.step [4] (by decide) hc hT ⟨⟨_,rfl,?_⟩,trivial⟩)
    ·(refine WO.autoM (k:=?_);intro q4);exact WT.go [(7,pt q4)] hA (hS240 q4 q5 q6 q7)
   have hS48:∀ q4 q5,A [5,4] [(7,pt q4),(8,pt q5),(3,pt g3),(5,pt g5),(6,pt g6)] [⟨q4,24,zc 0⟩,⟨q5,24,zc 0⟩,⟨g3,24,zc a⟩,⟨g5,24,zc m⟩,⟨g6,24,zc 0⟩]:=by
    intro q4 q5;refine (hA _ _ _).2 (WT.step [6,7] (by decide) hc hT ⟨⟨_,rfl,?_⟩,⟨_,rfl,?_⟩,trivial⟩)
    ·(refine WO.autoM (k:=?_);intro q6);exact WT.go [(9,pt q6)] hA (hS112 q4 q5 q6)
    ·(refine WO.autoM (k:=?_);intro q7);exact WT.go [(10,pt q7)] hA (hS176 q4 q5 q7)
   have hS80:∀ q4 q6,A [6,4] [(7,pt q4),(9,pt q6),(3,pt g3),(5,pt g5),(6,pt g6)] [⟨q4,24,zc 0⟩,⟨q6,24,zc 0⟩,⟨g3,24,zc a⟩,⟨g5,24,zc m⟩,⟨g6,24,zc 0⟩]:=by
    intro q4 q6;refine (hA _ _ _).2 (WT.step [5,7] (by decide) hc hT ⟨⟨_,rfl,?_⟩,⟨_,rfl,?_⟩,trivial⟩)
    ·(refine WO.autoM (k:=?_);intro q5);exact WT.go [(8,pt q5)] hA (hS112 q4 q5 q6)
    ·(refine WO.autoM (k:=?_);intro q7);exact WT.go [(10,pt q7)] hA (hS208 q4 q6 q7)
   have hS144:∀ q4 q7,A [7,4] [(7,pt q4),(10,pt q7),(3,pt g3),(5,pt g5),(6,pt g6)] [⟨q4,24,zc 0⟩,⟨q7,24,zc 0⟩,⟨g3,24,zc a⟩,⟨g5,24,zc m⟩,⟨g6,24,zc 0⟩]:=by
    intro q4 q7;refine (hA _ _ _).2 (WT.step [5,6] (by decide) hc hT ⟨⟨_,rfl,?_⟩,⟨_,rfl,?_⟩,trivial⟩)
    ·(refine WO.autoM (k:=?_);intro q5);exact WT.go [(8,pt q5)] hA (hS176 q4 q5 q7)
    ·(refine WO.autoM (k:=?_);intro q6);exact WT.go [(9,pt q6)] hA (hS208 q4 q6 q7)
   have hS96:∀ q5 q6,A [6,5] [(8,pt q5),(9,pt q6),(3,pt g3),(5,pt g5),(6,pt g6)] [⟨q5,24,zc 0⟩,⟨q6,24,zc 0⟩,⟨g3,24,zc a⟩,⟨g5,24,zc m⟩,⟨g6,24,zc 0⟩]:=by
    intro q5 q6;refine (hA _ _ _).2 (WT.step [4,7] (by decide) hc hT ⟨⟨_,rfl,?_⟩,⟨_,rfl,?_⟩,trivial⟩)
    ·(refine WO.autoM (k:=?_);intro q4);exact WT.go [(7,pt q4)] hA (hS112 q4 q5 q6)
    ·(refine WO.autoM (k:=?_);intro q7);exact WT.go [(10,pt q7)] hA (hS224 q5 q6 q7)
   have hS160:∀ q5 q7,A [7,5] [(8,pt q5),(10,pt q7),(3,pt g3),(5,pt g5),(6,pt g6)] [⟨q5,24,zc 0⟩,⟨q7,24,zc 0⟩,⟨g3,24,zc a⟩,⟨g5,24,zc m⟩,⟨g6,24,zc 0⟩]:=by
    intro q5 q7;refine (hA _ _ _).2 (WT.step [4,6] (by decide) hc hT ⟨⟨_,rfl,?_⟩,⟨_,rfl,?_⟩,trivial⟩)
    ·(refine WO.autoM (k:=?_);intro q4);exact WT.go [(7,pt q4)] hA (hS176 q4 q5 q7)
    ·(refine WO.autoM (k:=?_);intro q6);exact WT.go [(9,pt q6)] hA (hS224 q5 q6 q7)
   have hS192:∀ q6 q7,A [7,6] [(9,pt q6),(10,pt q7),(3,pt g3),(5,pt g5),(6,pt g6)] [⟨q6,24,zc 0⟩,⟨q7,24,zc 0⟩,⟨g3,24,zc a⟩,⟨g5,24,zc m⟩,⟨g6,24,zc 0⟩]:=by
    intro q6 q7;refine (hA _ _ _).2 (WT.step [4,5] (by decide) hc hT ⟨⟨_,rfl,?_⟩,⟨_,rfl,?_⟩,trivial⟩)
    ·(refine WO.autoM (k:=?_);intro q4);exact WT.go [(7,pt q4)] hA (hS208 q4 q6 q7)
    ·(refine WO.autoM (k:=?_);intro q5);exact WT.go [(8,pt q5)] hA (hS224 q5 q6 q7)
   have hS16:∀ q4,A [4] [(7,pt q4),(3,pt g3),(5,pt g5),(6,pt g6)] [⟨q4,24,zc 0⟩,⟨g3,24,zc a⟩,⟨g5,24,zc m⟩,⟨g6,24,zc 0⟩]:=by
    intro q4;refine (hA _ _ _).2 (WT.step [5,6,7] (by decide) hc hT ⟨⟨_,rfl,?_⟩,⟨_,rfl,?_⟩,⟨_,rfl,?_⟩,trivial⟩)
    ·(refine WO.autoM (k:=?_);intro q5);exact WT.go [(8,pt q5)] hA (hS48 q4 q5)
    ·(refine WO.autoM (k:=?_);intro q6);exact WT.go [(9,pt q6)] hA (hS80 q4 q6)
    ·(refine WO.autoM (k:=?_);intro q7);exact WT.go [(10,pt q7)] hA (hS144 q4 q7)
   have hS32:∀ q5,A [5] [(8,pt q5),(3,pt g3),(5,pt g5),(6,pt g6)] [⟨q5,24,zc 0⟩,⟨g3,24,zc a⟩,⟨g5,24,zc m⟩,⟨g6,24,zc 0⟩]:=by
    intro q5;refine (hA _ _ _).2 (WT.step [4,6,7] (by decide) hc hT ⟨⟨_,rfl,?_⟩,⟨_,rfl,?_⟩,⟨_,rfl,?_⟩,trivial⟩)
    ·(refine WO.autoM (k:=?_);intro q4);exact WT.go [(7,pt q4)] hA (hS48 q4 q5)
    ·(refine WO.autoM (k:=?_);intro q6);exact WT.go [(9,pt q6)] hA (hS96 q5 q6)
    ·(refine WO.autoM (k:=?_);intro q7);exact WT.go [(10,pt q7)] hA (hS160 q5 q7)
   have hS64:∀ q6,A [6] [(9,pt q6),(3,pt g3),(5,pt g5),(6,pt g6)] [⟨q6,24,zc 0⟩,⟨g3,24,zc a⟩,⟨g5,24,zc m⟩,⟨g6,24,zc 0⟩]:=by
    intro q6;refine (hA _ _ _).2 (WT.step [4,5,7] (by decide) hc hT ⟨⟨_,rfl,?_⟩,⟨_,rfl,?_⟩,⟨_,rfl,?_⟩,trivial⟩)
    ·(refine WO.autoM (k:=?_);intro q4);exact WT.go [(7,pt q4)] hA (hS80 q4 q6)
    ·(refine WO.autoM (k:=?_);intro q5);exact WT.go [(8,pt q5)] hA (hS96 q5 q6)
    ·(refine WO.autoM (k:=?_);intro q7);exact WT.go [(10,pt q7)] hA (hS192 q6 q7)
   have hS128:∀ q7,A [7] [(10,pt q7),(3,pt g3),(5,pt g5),(6,pt g6)] [⟨q7,24,zc 0⟩,⟨g3,24,zc a⟩,⟨g5,24,zc m⟩,⟨g6,24,zc 0⟩]:=by
    intro q7;refine (hA _ _ _).2 (WT.step [4,5,6] (by decide) hc hT ⟨⟨_,rfl,?_⟩,⟨_,rfl,?_⟩,⟨_,rfl,?_⟩,trivial⟩)
    ·(refine WO.autoM (k:=?_);intro q4);exact WT.go [(7,pt q4)] hA (hS144 q4 q7)
    ·(refine WO.autoM (k:=?_);intro q5);exact WT.go [(8,pt q5)] hA (hS160 q5 q7)
    ·(refine WO.autoM (k:=?_);intro q6);exact WT.go [(9,pt q6)] hA (hS192 q6 q7)
   have hS0:A [] [(3,pt g3),(5,pt g5),(6,pt g6)] [⟨g3,24,zc a⟩,⟨g5,24,zc m⟩,⟨g6,24,zc 0⟩]:=by
    refine (hA _ _ _).2 (WT.step [4,5,6,7] (by decide) hc hT ⟨⟨_,rfl,?_⟩,⟨_,rfl,?_⟩,⟨_,rfl,?_⟩,⟨_,rfl,?_⟩,trivial⟩)
    ·(refine WO.autoM (k:=?_);intro q4);exact WT.go [(7,pt q4)] hA (hS16 q4)
    ·(refine WO.autoM (k:=?_);intro q5);exact WT.go [(8,pt q5)] hA (hS32 q5)
    ·(refine WO.autoM (k:=?_);intro q6);exact WT.go [(9,pt q6)] hA (hS64 q6)
    ·(refine WO.autoM (k:=?_);intro q7);exact WT.go [(10,pt q7)] hA (hS128 q7)
   exact WT.less ((hA _ _ _).1 hS0) (by decide) Kle.a (by repeat (first|exact Lle.nil|exact Lle.same|refine Lle.c ?_))
  intro q4 q5 q6 q7;refine (hA _ _ _).2 (WT.fin [4,5,6,7,8,9,10,11] 6 hc rfl (by kernel_rfl) ?_);clear hc hT hA
  repeat (first|refine Tw ?_|(refine Tm ?_;intro _)|exact Tz)
  refine WC.loopI (σ:=Nat × Nat × Nat × Nat) (fun s=>0<s.2.1∧s.2.1<s.1∧s.1≤m∧Nat.gcd s.1 s.2.1=1∧s.2.2.1<m∧s.2.2.2<m∧eS m s.1 s.2.1 s.2.2.1 s.2.2.2=eS m m a 0 1)
   (fun s=>[(5,pt g5),(6,pt g6),(7,pt q4),(8,pt q5),(9,pt q6),(10,pt q7)])
   (fun s=>[⟨g5,24,zc m⟩,⟨g6,24,zc 0⟩,⟨q4,24,zc s.1⟩,⟨q5,24,zc s.2.1⟩,⟨q6,24,zc s.2.2.1⟩,⟨q7,24,zc s.2.2.2⟩]) (fun s=>s.2.1) (m,a,0,1) (fun s hs=>?_) ⟨h0,ha,Nat.le_refl _,hgm,by show 0<m;omega,h1,rfl⟩
  obtain⟨r,s,x,y⟩:=s;obtain⟨hs0,hsr,hrm,hgc,hx,hy,heq⟩:=hs;dsimp only at hs0 hsr hrm hgc hx hy heq ⊢;have hsB:s<zd:=by omega
  by_cases hs1:s=1
  ·have hno:¬ (s≠1):=fun h=>h hs1;subst hs1;rw[gr] at heq;rw[← heq]
   repeat (first|refine Tw ?_|(refine Tm ?_;intro _)|exact Tz)
   refine WC.adraw 3 (k:=?_)
   repeat (first|refine Da ?_|refine DQ.acall (hc:=ud) (k:=?_)|refine Dc ?_)
   refine DQ.anil (k:=?_);intro sx _
   repeat (first|refine Tw ?_|(refine Tm ?_;intro _)|exact Tz)
  ·have hD:=ahO r s Om hsB hs0;have hq:=aih (r:=r) (s:=s) (m:=m) Om hrm h1;have hT:=jL (r / s) y m hq hy hm;have hS:=aec x (r / s*y%m) m Om (Nat.lt_trans (Nat.mod_lt _ Om) hm) hm;have hmay:zQ x (r / s*y%m) m=true:=by unfold zQ;simp[h1,hx,Nat.mod_lt _ (show 0<m by omega)]
   rw[hmay] at hS;have hnext:=lW (m:=m) (r:=r) (x:=x) (y:=y) (show 1<s by omega);have hpos:=gQ (show 1<s by omega) hgc;have hlt:=Nat.mod_lt r hs0;have hgn:=iZ hgc;have hz:(x+m - r / s*y%m)%m<m:=Nat.mod_lt _ Om;rw[heq] at hnext;generalize (x+m - r / s*y%m)%m=z at *;generalize r / s*y%m=u at *;generalize r / s=q at *;generalize r%s=p at *
   repeat (first|refine Tw ?_|(refine Tm ?_;intro _)|exact Tz)
   refine WC.adraw 3 (k:=?_)
   repeat (first|refine Da ?_|refine DQ.acall (hc:=ud) (k:=?_)|refine Dc ?_)
   refine DQ.anil (k:=?_);intro sx _
   repeat (first|refine Tw ?_|(refine Tm ?_;intro _)|exact Tz)
   refine WC.dT rfl hs1 ?_
   repeat (first|refine Ta ?_|(refine Tm ?_;intro _)|refine WO.acall (hc:=hD) (k:=?_)|refine Tc ?_|exact Tz)
   rename_i g11 g12;refine WC.adrawF [9] 11 (k:=?_)
   repeat (first|refine Da ?_|refine DQ.acall (hc:=hT) (k:=?_)|refine DQ.acall (hc:=hS) (k:=?_)|refine Df ?_)
   refine DQ.anil (k:=?_);intro sx _
   repeat (first|refine Tw ?_|(refine Tm ?_;intro _)|exact Tz)
   generalize sx 10 0=g14;refine WC.mainA [0,4,5,6,7] [(1,zk p),(2,zk y),(3,zk z)] (by decide) (fun A hA=>?_);refine WT.given [(5,pt g5),(6,pt g6),(7,pt q4),(8,pt q5),(9,pt q6),(10,pt q7),(12,pt g12),(14,pt g14)] [⟨g12,24,zc p⟩,⟨q7,24,zc y⟩,⟨g14,24,zc z⟩] (by kernel_rfl) (Tlv.a (Tlv.a (Tlv.a (Tlv.nil)))) (fun hc hT=>?_)
   suffices hS241:A [7,6,5,4,0] [(46,zk s),(5,pt g5),(6,pt g6),(7,pt q4),(8,pt q5),(9,pt q6),(10,pt q7),(12,pt g12),(14,pt g14)] [⟨g5,24,zc m⟩,⟨g6,24,zc 0⟩,⟨q4,24,zc s⟩,⟨q5,24,zc p⟩,⟨q6,24,zc y⟩,⟨q7,24,zc z⟩,⟨g12,24,zc p⟩,⟨g14,24,zc z⟩] by
    have hS113:A [6,5,4,0] [(46,zk s),(5,pt g5),(6,pt g6),(7,pt q4),(8,pt q5),(9,pt q6),(10,pt q7),(12,pt g12),(14,pt g14)] [⟨g5,24,zc m⟩,⟨g6,24,zc 0⟩,⟨q4,24,zc s⟩,⟨q5,24,zc p⟩,⟨q6,24,zc y⟩,⟨q7,24,zc y⟩,⟨g12,24,zc p⟩,⟨g14,24,zc z⟩]:=by
     refine (hA _ _ _).2 (WT.step [7] (by decide) hc hT ⟨⟨_,rfl,?_⟩,trivial⟩)
     ·refine Tw ?_;exact WT.go [] hA (hS241)
    have hS49:A [5,4,0] [(46,zk s),(5,pt g5),(6,pt g6),(7,pt q4),(8,pt q5),(9,pt q6),(10,pt q7),(12,pt g12),(14,pt g14)] [⟨g5,24,zc m⟩,⟨g6,24,zc 0⟩,⟨q4,24,zc s⟩,⟨q5,24,zc p⟩,⟨q6,24,zc x⟩,⟨q7,24,zc y⟩,⟨g12,24,zc p⟩,⟨g14,24,zc z⟩]:=by
     refine (hA _ _ _).2 (WT.step [6] (by decide) hc hT ⟨⟨_,rfl,?_⟩,trivial⟩)
     ·refine Tw ?_;exact WT.go [] hA (hS113)
    have hS17:A [4,0] [(46,zk s),(5,pt g5),(6,pt g6),(7,pt q4),(8,pt q5),(9,pt q6),(10,pt q7),(12,pt g12),(14,pt g14)] [⟨g5,24,zc m⟩,⟨g6,24,zc 0⟩,⟨q4,24,zc s⟩,⟨q5,24,zc s⟩,⟨q6,24,zc x⟩,⟨q7,24,zc y⟩,⟨g12,24,zc p⟩,⟨g14,24,zc z⟩]:=by
     refine (hA _ _ _).2 (WT.step [5] (by decide) hc hT ⟨⟨_,rfl,?_⟩,trivial⟩)
     ·refine Tw ?_;exact WT.go [] hA (hS49)
    have hS1:A [0] [(46,zk s),(5,pt g5),(6,pt g6),(7,pt q4),(8,pt q5),(9,pt q6),(10,pt q7),(12,pt g12),(14,pt g14)] [⟨g5,24,zc m⟩,⟨g6,24,zc 0⟩,⟨q4,24,zc r⟩,⟨q5,24,zc s⟩,⟨q6,24,zc x⟩,⟨q7,24,zc y⟩,⟨g12,24,zc p⟩,⟨g14,24,zc z⟩]:=by
     refine (hA _ _ _).2 (WT.step [4] (by decide) hc hT ⟨⟨_,rfl,?_⟩,trivial⟩)
     ·refine Tw ?_;exact WT.go [] hA (hS17)
    have hS0:A [] [(5,pt g5),(6,pt g6),(7,pt q4),(8,pt q5),(9,pt q6),(10,pt q7),(12,pt g12),(14,pt g14)] [⟨g5,24,zc m⟩,⟨g6,24,zc 0⟩,⟨q4,24,zc r⟩,⟨q5,24,zc s⟩,⟨q6,24,zc x⟩,⟨q7,24,zc y⟩,⟨g12,24,zc p⟩,⟨g14,24,zc z⟩]:=by
     refine (hA _ _ _).2 (WT.step [0] (by decide) hc hT ⟨⟨_,rfl,?_⟩,trivial⟩)
     ·refine Tw ?_;exact WT.go [(46,zk s)] hA (hS1)
    exact WT.less ((hA _ _ _).1 hS0) (by decide) Kle.a (by repeat (first|exact Lle.nil|exact Lle.same|refine Lle.c ?_))
   refine (hA _ _ _).2 (WT.fin [0,4,5,6,7] 6 hc rfl (by kernel_rfl) ?_);clear hc hT hA
   repeat (first|refine Tw ?_|(refine Tm ?_;intro _)|exact Tz)
   refine WX.metI (s,p,y,z) (hs:=⟨⟨hpos,hlt,by omega,hgn,hy,hz,hnext.symm⟩,hlt⟩)
 ·have hinv:yX a m=0:=jl hg;rw[hinv];refine Fn.enter Tryz.func190 rfl rfl rfl ?_;intro w hw
  repeat (first|refine Ta ?_|(refine Tm ?_;intro _)|refine WO.acall (hc:=hG) (k:=?_)|refine WO.acall (hc:=ud) (k:=?_)|refine Tc ?_|exact Tz)
  refine WC.dT rfl hg ?_
  repeat (first|refine Tw ?_|(refine Tm ?_;intro _)|exact Tz)
theorem jD {a m:Nat} (h1:1<m) (ha:a<m):yX a m<m:=by
 by_cases hg:Nat.gcd a m=1
 ·exact (vT h1 ha hg).2
 ·rw[jl hg];omega
theorem ahs (a m:Nat) (ha:a<zd) (hm:m<zd):Fn Tryz.prog 150 [zk a,zk m] Tr (Is (.tuple #[zk (okV (zQ a a m) (yX a m)),.int .i64 (qz a m)])):=by
 have hO:=agz (f:=190) [] a a m (yX a m) ha ha hm Tr zP.tr (fun h=>agJ a m (zN h).1 (zN h).2.1 hm);cases hy:zQ a a m with
 | false =>
  have he:qz a m=1:=by unfold qz;rw[hy];rfl
  rw[hy] at hO;rw[he];refine Fn.enter Tryz.func150 rfl rfl rfl ?_;intro w hw
  repeat (first|refine Ta ?_|(refine Tm ?_;intro _)|refine WO.acall (hc:=hO) (k:=?_)|refine Tc ?_|exact Tz)
  refine WC.adraw 7 (k:=?_)
  repeat (first|refine Da ?_|refine DQ.acall (hc:=mo) (k:=?_)|refine Dc ?_)
  refine DQ.anil (k:=?_);intro sx _
  repeat (first|refine Tw ?_|(refine Tm ?_;intro _)|exact Tz)
 | true =>
  obtain⟨h1,h2,_⟩:=zN hy;have hB:yX a m<zd:=Nat.lt_trans (jD h1 h2) hm;rw[hy] at hO
  by_cases hg:Nat.gcd a m=1
  ·have he:qz a m=0:=by unfold qz;rw[hy,if_pos hg];rfl
   have hz:¬ yX a m=0:=aeW h1 h2 hg;rw[he];generalize yX a m=v at *;refine Fn.enter Tryz.func150 rfl rfl rfl ?_;intro w hw
   repeat (first|refine Ta ?_|(refine Tm ?_;intro _)|refine WO.acall (hc:=hO) (k:=?_)|refine Tc ?_|exact Tz)
   refine WC.adraw 7 (k:=?_)
   repeat (first|refine Da ?_|refine DQ.acall (hc:=mo) (k:=?_)|refine Dc ?_)
   refine DQ.anil (k:=?_);intro sx _
   repeat (first|refine Tw ?_|(refine Tm ?_;intro _)|exact Tz)
   refine WC.dF rfl hz ?_
   repeat (first|refine Tw ?_|(refine Tm ?_;intro _)|exact Tz)
  ·have he:qz a m=7:=by unfold qz;rw[hy,if_neg hg];rfl
   rw[he];rw[jl hg] at hO ⊢;refine Fn.enter Tryz.func150 rfl rfl rfl ?_;intro w hw
   repeat (first|refine Ta ?_|(refine Tm ?_;intro _)|refine WO.acall (hc:=hO) (k:=?_)|refine Tc ?_|exact Tz)
   refine WC.adraw 7 (k:=?_)
   repeat (first|refine Da ?_|refine DQ.acall (hc:=mo) (k:=?_)|refine Dc ?_)
   refine DQ.anil (k:=?_);intro sx _
   repeat (first|refine Tw ?_|(refine Tm ?_;intro _)|exact Tz)
end Sx
end
section
open Go Go.RowKit
namespace Sx
attribute [local irreducible] DQ WC WO WX wd
abbrev yr (p q g h:Nat):List Value:=[.int .u64 ((wd 0 p:Nat):Int),.int .u64 ((wd 1 p:Nat):Int),.int .u64 ((wd 2 p:Nat):Int),.int .u64 ((wd 3 p:Nat):Int),.int .u64 ((wd 0 q:Nat):Int),.int .u64 ((wd 1 q:Nat):Int),.int .u64 ((wd 2 q:Nat):Int),.int .u64 ((wd 3 q:Nat):Int),.int .u64 ((wd 0 g:Nat):Int),.int .u64 ((wd 1 g:Nat):Int),.int .u64 ((wd 2 g:Nat):Int),.int .u64 ((wd 3 g:Nat):Int),.int .u64 ((wd 0 h:Nat):Int),.int .u64 ((wd 1 h:Nat):Int),.int .u64 ((wd 2 h:Nat):Int),.int .u64 ((wd 3 h:Nat):Int)]
abbrev y9 (p q g h:Nat):Value:=.agg #[.int .u64 ((wd 0 p:Nat):Int),.int .u64 ((wd 1 p:Nat):Int),.int .u64 ((wd 2 p:Nat):Int),.int .u64 ((wd 3 p:Nat):Int),.int .u64 ((wd 0 q:Nat):Int),.int .u64 ((wd 1 q:Nat):Int),.int .u64 ((wd 2 q:Nat):Int),.int .u64 ((wd 3 q:Nat):Int),.int .u64 ((wd 0 g:Nat):Int),.int .u64 ((wd 1 g:Nat):Int),.int .u64 ((wd 2 g:Nat):Int),.int .u64 ((wd 3 g:Nat):Int),.int .u64 ((wd 0 h:Nat):Int),.int .u64 ((wd 1 h:Nat):Int),.int .u64 ((wd 2 h:Nat):Int),.int .u64 ((wd 3 h:Nat):Int)]
def yv (p a:Nat):Bool:=decide (1<p) && decide (a≠0) && decide (a<p)
theorem yP {p a:Nat} (h:yv p a=true):1<p∧a≠0∧a<p:=by
 unfold yv at h;simp at h;exact⟨h.1.1,h.1.2,h.2⟩
theorem du {p a:Nat} (h:yv p a=true):zQ a a p=true:=by
 obtain⟨h1,_,h3⟩:=yP h;simp[zQ,h1,h3]
section
variable (p q g h:Nat)
theorem pg (a b:Nat) (ha:a<zd) (hb:b<zd) (hq:q<zd):Fn Tryz.prog 125 [y9 p q g h,zk a,zk b] Tr (Is (rE (zQ a b q) ((a+b)%q))):=by
 have hO:=ags a b q ha hb hq;refine Fn.enter Tryz.func125 rfl rfl rfl ?_;intro w hw
 repeat (first|refine Td ?_|(refine Tm ?_;intro _)|refine WO.acall (hc:=hO) (k:=?_)|refine Tc ?_|exact Tz)
theorem aJ (a b:Nat) (ha:a<zd) (hb:b<zd) (hq:q<zd):Fn Tryz.prog 140 [y9 p q g h,zk a,zk b] Tr (Is (rE (zQ a b q) ((a+q - b)%q))):=by
 have hO:=aec a b q ha hb hq;refine Fn.enter Tryz.func140 rfl rfl rfl ?_;intro w hw
 repeat (first|refine Td ?_|(refine Tm ?_;intro _)|refine WO.acall (hc:=hO) (k:=?_)|refine Tc ?_|exact Tz)
theorem j1 (a b:Nat) (ha:a<zd) (hb:b<zd) (hq:q<zd):Fn Tryz.prog 124 [y9 p q g h,zk a,zk b] Tr (Is (rE (zQ a b q) (a*b%q))):=by
 have hO:=afd a b q ha hb hq;refine Fn.enter Tryz.func124 rfl rfl rfl ?_;intro w hw
 repeat (first|refine Td ?_|(refine Tm ?_;intro _)|refine WO.acall (hc:=hO) (k:=?_)|refine Tc ?_|exact Tz)
theorem ga (a:Nat) (ha:a<zd) (hq:q<zd):Fn Tryz.prog 101 [y9 p q g h,zk a] Tr (Is (.tuple #[zk (okV (zQ a a q) (yX a q)),.int .i64 (qz a q)])):=by
 have hO:=ahs a q ha hq;refine Fn.enter Tryz.func101 rfl rfl rfl ?_;intro w hw
 repeat (first|refine Td ?_|(refine Tm ?_;intro _)|refine WO.acall (hc:=hO) (k:=?_)|refine Tc ?_|exact Tz)
theorem adL (a:Nat) (ha:a<zd) (hp:p<zd):Fn Tryz.prog 50 [y9 p q g h,zk a] Tr (Is (.bool (yv p a))):=by
 have hC1:=kY p 1 hp y7;have hC2:=kY a p ha hp
 by_cases h1:1<p
 ·rw[jn h1] at hC1
  by_cases h2:a=0
  ·have e:yv p a=false:=by simp[yv,h2]
   rw[e];refine Fn.enter Tryz.func50 rfl rfl rfl ?_;intro w hw
   repeat (first|refine Td ?_|(refine Tm ?_;intro _)|refine Tc ?_|exact Tz)
   refine WC.adraw 18 (k:=?_)
   repeat (first|refine DQ.decT (k:=?_)|refine DQ.decF (k:=?_)|refine Da ?_|refine DQ.acall (hc:=ud) (k:=?_)|refine DQ.acall (hc:=mo) (k:=?_)|refine DQ.acall (hc:=hC1) (k:=?_)|refine DQ.acall (hc:=hC2) (k:=?_)|refine Dc ?_)
   refine DQ.anil (k:=?_);intro sx _
   repeat (first|refine Td ?_|(refine Tm ?_;intro _)|refine Tc ?_|exact Tz)
  ·by_cases h3:a<p
   ·have e:yv p a=true:=by simp[yv,h1,h2,h3]
    rw[bW h3] at hC2;rw[e];refine Fn.enter Tryz.func50 rfl rfl rfl ?_;intro w hw
    repeat (first|refine Td ?_|(refine Tm ?_;intro _)|refine Tc ?_|exact Tz)
    refine WC.adraw 18 (k:=?_)
    repeat (first|refine DQ.decT (k:=?_)|refine DQ.decF (k:=?_)|refine Da ?_|refine DQ.acall (hc:=ud) (k:=?_)|refine DQ.acall (hc:=mo) (k:=?_)|refine DQ.acall (hc:=hC1) (k:=?_)|refine DQ.acall (hc:=hC2) (k:=?_)|refine Dc ?_)
    refine DQ.anil (k:=?_);intro sx _
    repeat (first|refine Td ?_|(refine Tm ?_;intro _)|refine Tc ?_|exact Tz)
   ·have e:yv p a=false:=by simp[yv,h3]
    have e2:uQ a p=0∨uQ a p=1:=by
     rcases Nat.lt_or_ge p a with h4|h4
     ·exact .inr (jn h4)
     ·exact .inl (cI Om)
    rw[e]
    rcases e2 with e2|e2
    all_goals
     rw[e2] at hC2;refine Fn.enter Tryz.func50 rfl rfl rfl ?_;intro w hw
     repeat (first|refine Td ?_|(refine Tm ?_;intro _)|refine Tc ?_|exact Tz)
     refine WC.adraw 18 (k:=?_)
     repeat (first|refine DQ.decT (k:=?_)|refine DQ.decF (k:=?_)|refine Da ?_|refine DQ.acall (hc:=ud) (k:=?_)|refine DQ.acall (hc:=mo) (k:=?_)|refine DQ.acall (hc:=hC1) (k:=?_)|refine DQ.acall (hc:=hC2) (k:=?_)|refine Dc ?_)
     refine DQ.anil (k:=?_);intro sx _
     repeat (first|refine Td ?_|(refine Tm ?_;intro _)|refine Tc ?_|exact Tz)
 ·have e:yv p a=false:=by simp[yv,h1]
  have e2:uQ p 1=0∨uQ p 1 = -1:=by
   rcases Nat.lt_or_ge p 1 with h4|h4
   ·exact .inr (bW h4)
   ·exact .inl (cI Om)
  rw[e]
  rcases e2 with e2|e2
  all_goals
   rw[e2] at hC1;refine Fn.enter Tryz.func50 rfl rfl rfl ?_;intro w hw
   repeat (first|refine Td ?_|(refine Tm ?_;intro _)|refine Tc ?_|exact Tz)
   refine WC.adraw 18 (k:=?_)
   repeat (first|refine DQ.decT (k:=?_)|refine DQ.decF (k:=?_)|refine Da ?_|refine DQ.acall (hc:=ud) (k:=?_)|refine DQ.acall (hc:=mo) (k:=?_)|refine DQ.acall (hc:=hC1) (k:=?_)|refine DQ.acall (hc:=hC2) (k:=?_)|refine Dc ?_)
   refine DQ.anil (k:=?_);intro sx _
   repeat (first|refine Td ?_|(refine Tm ?_;intro _)|refine Tc ?_|exact Tz)
theorem yZ (a n:Nat) (ha:a<zd) (hn:n<zd) (hp:p<zd):Fn Tryz.prog 23 [y9 p q g h,zk a,zk n] Tr (Is (rE (yv p a) (a ^ n%p))):=by
 have hM:=adL p q g h a ha hp;cases hy:yv p a with
 | true =>
  have hE:=ahD a n p ha hn hp;rw[du hy] at hE;rw[hy] at hM;refine Fn.enter Tryz.func23 rfl rfl rfl ?_;intro w hw
  repeat (first|refine Td ?_|(refine Tm ?_;intro _)|refine WO.acall (hc:=hM) (k:=?_)|refine WO.acall (hc:=hE) (k:=?_)|refine Tc ?_|exact Tz)
 | false =>
  rw[hy] at hM;refine Fn.enter Tryz.func23 rfl rfl rfl ?_;intro w hw
  repeat (first|refine Td ?_|(refine Tm ?_;intro _)|refine WO.acall (hc:=hM) (k:=?_)|refine Tc ?_|exact Tz)
theorem adf (a b:Nat) (ha:a<zd) (hb:b<zd) (hp:p<zd):Fn Tryz.prog 120 [y9 p q g h,zk a,zk b] Tr (Is (rE (yv p a && yv p b) (a*b%p))):=by
 have hM1:=adL p q g h a ha hp;have hM2:=adL p q g h b hb hp;cases hy:yv p a with
 | true =>
  rw[hy] at hM1;cases hz:yv p b with
  | true =>
   rw[hz] at hM2;have hE:=afd a b p ha hb hp;have hm:zQ a b p=true:=by
    obtain⟨h1,_,h3⟩:=yP hy;obtain⟨_,_,h4⟩:=yP hz;simp[zQ,h1,h3,h4]
   rw[hm] at hE;refine Fn.enter Tryz.func120 rfl rfl rfl ?_;intro w hw
   repeat (first|refine Td ?_|(refine Tm ?_;intro _)|refine WO.acall (hc:=hM1) (k:=?_)|refine WO.acall (hc:=hM2) (k:=?_)|refine WO.acall (hc:=hE) (k:=?_)|refine Tc ?_|exact Tz)
  | false =>
   rw[hz] at hM2;refine Fn.enter Tryz.func120 rfl rfl rfl ?_;intro w hw
   repeat (first|refine Td ?_|(refine Tm ?_;intro _)|refine WO.acall (hc:=hM1) (k:=?_)|refine WO.acall (hc:=hM2) (k:=?_)|refine Tc ?_|exact Tz)
 | false =>
  rw[hy] at hM1;refine Fn.enter Tryz.func120 rfl rfl rfl ?_;intro w hw
  repeat (first|refine Td ?_|(refine Tm ?_;intro _)|refine WO.acall (hc:=hM1) (k:=?_)|refine WO.acall (hc:=hM2) (k:=?_)|refine Tc ?_|exact Tz)
def gIn (p q a:Nat):Bool:=yv p a && decide (a ^ q%p=1)
theorem tK (a:Nat) (ha:a<zd) (hp:p<zd) (hq:q<zd):Fn Tryz.prog 74 [y9 p q g h,zk a] Tr (Is (.bool (gIn p q a))):=by
 have hE:=yZ p q g h a q ha hq hp;cases hy:yv p a with
 | true =>
  rw[hy] at hE;have hB:a ^ q%p<zd:=Nat.lt_trans (Nat.mod_lt _ (by have:=yP hy;omega)) hp;have e:gIn p q a=decide (a ^ q%p=1):=by simp[gIn,hy]
  rw[e];generalize a ^ q%p=v at *;refine Fn.enter Tryz.func74 rfl rfl rfl ?_;intro w hw
  repeat (first|refine Td ?_|(refine Tm ?_;intro _)|refine WO.acall (hc:=hE) (k:=?_)|refine Tc ?_|exact Tz)
  by_cases hv:v=1
  ·rw[decide_eq_true hv];refine WC.adraw 8 (k:=?_)
   repeat (first|refine DQ.decT (k:=?_)|refine DQ.decF (k:=?_)|refine Da ?_|refine DQ.acall (hc:=ud) (k:=?_)|refine Dc ?_)
   refine DQ.anil (k:=?_);intro sx _
   repeat (first|refine Td ?_|(refine Tm ?_;intro _)|refine Tc ?_|exact Tz)
  ·rw[decide_eq_false hv];refine WC.adraw 8 (k:=?_)
   repeat (first|refine DQ.decT (k:=?_)|refine DQ.decF (k:=?_)|refine Da ?_|refine DQ.acall (hc:=ud) (k:=?_)|refine Dc ?_)
   refine DQ.anil (k:=?_);intro sx _
   repeat (first|refine Td ?_|(refine Tm ?_;intro _)|refine Tc ?_|exact Tz)
 | false =>
  have e:gIn p q a=false:=by simp[gIn,hy]
  rw[hy] at hE;rw[e];refine Fn.enter Tryz.func74 rfl rfl rfl ?_;intro w hw
  repeat (first|refine Td ?_|(refine Tm ?_;intro _)|refine WO.acall (hc:=hE) (k:=?_)|refine Tc ?_|exact Tz)
  refine WC.adraw 8 (k:=?_)
  repeat (first|refine DQ.decT (k:=?_)|refine DQ.decF (k:=?_)|refine Da ?_|refine DQ.acall (hc:=ud) (k:=?_)|refine Dc ?_)
  refine DQ.anil (k:=?_);intro sx _
  repeat (first|refine Td ?_|(refine Tm ?_;intro _)|refine Tc ?_|exact Tz)
end
end Sx
end
section
open Go Go.RowKit Go.BigFrame
namespace Sx
attribute [local irreducible] DQ WC WO
theorem ad8 (pa pb:Option Addr) (la lb ca cb:Nat):Fn Tryz.prog 181 [.slice pa la ca,.slice pb lb cb] Tr (Ex (fun s=>.func (.func 212) #[] #[pt (s 0),pt (s 1)]) (fun s=>[⟨s 1,42,[.slice pb lb cb]⟩,⟨s 0,42,[.slice pa la ca]⟩]) (fun _=>True)):=by
 refine Fn.enter Tryz.func181 rfl rfl rfl ?_;intro w hw
 repeat (first|refine Ta ?_|(refine Tm ?_;intro _)|refine WO.does (zH rfl rfl) ?_|refine Tc ?_|exact Tz)
 rename_i g1 g2;exact WX.ret1 rfl (zX rfl) [⟨g2,42,[.slice pb lb cb]⟩,⟨g1,42,[.slice pa la ca]⟩] (Lle.cons Pk.here rfl (Lle.cons Pk.here rfl Lle.nil)) ⟨fun i=>if i=0 then g1 else g2,rfl,rfl,trivial⟩
abbrev q0 (l:Nat):Nat × Value:=(0,.func (.yield l) #[] #[])
abbrev q1 (g:Nat):Nat × Value:=(1,pt g)
abbrev q2 (g:Nat):Nat × Value:=(2,pt g)
abbrev qn (j a:Nat):Nat × Value:=(j,zk a)
theorem aba (m:Nat) {α:Type} (fa fn:α→Nat) (xs:List α) (gA gN bA oA bN oN cA cN l:Nat) (J Jx:List α→World→Prop) (hn:xs.length≤1099511627776) (hJo:∀ s A B,J s A→Mod [] A B→J s B) (hJxo:∀ s A B,Jx s A→Mod [] A B→Jx s B)
  (hY:∀ pre x W,J pre W→pre.length<xs.length→YieldAt (fw none) (m - 1) Tryz.prog l #[zk (fa x),zk (fn x)] W fun e W'=>(e=.returned (.bool true)∧J (pre++[x]) W'∧yD [gA,gN,bA,bN] W W'∧W.heap.size≤W'.heap.size)∨(e=.returned (.bool false)∧Jx (pre++[x]) W'))
  (W:World) (hA:Seg W gA 0 [.slice (some ⟨bA,oA,none⟩) xs.length cA]) (hN:Seg W gN 0 [.slice (some ⟨bN,oN,none⟩) xs.length cN]) (hSA:∀ k x,xs[k]?=some x→Seg W bA (oA+k*4) (zc (fa x))) (hSN:∀ k x,xs[k]?=some x→Seg W bN (oN+k*4) (zc (fn x))) (hlt:∀ k∈[gA,gN,bA,bN],k<W.heap.size) (h0:J [] W) :
  CallsIn (fw none) m Tryz.prog 212 [.func (.yield l) #[] #[],pt gA,pt gN].toArray W fun e W'=>(∃ v,e=.returned v)∧((∃ ys,ys=xs∧J ys W')∨(∃ pre,True∧Jx pre W')):=by
 refine uB (n:=22) Tryz.func212 rfl rfl rfl ?_;have hQ:¬ LetsOut (bodyPost Tryz.prog Tryz.f212 fun e W'=>(∃ v,e=.returned v)∧((∃ ys,ys=xs∧J ys W')∨(∃ pre,True∧Jx pre W'))):=by
  rintro ⟨a,w,⟨v,h⟩,_⟩;cases h
 refine WI.seq (WI.region ?_ (by exact hQ));refine WO.does (zm (hs:=hA)) ?_;refine WO.auto (k:=?_);refine WO.auto (k:=?_);refine WO.nil (WX.seqI ?_);refine WI.block ?_;refine WI.loopW (σ:=Nat) (fun k=>[(0,.func (.yield l) #[] #[]),(1,pt gA),(2,pt gN),(6,.int .i64 (xs.length:Int)),(7,.int .i64 (k:Int))]) (fun k w=>k≤xs.length∧J (xs.take k) w∧yD [gA,gN,bA,bN] W w∧W.heap.size≤w.heap.size) (fun k=>xs.length - k) 0 (fun w hw=>⟨Nat.zero_le _,?_,?_,hw.mod.size⟩) ?_ ?_
 ·have:=hJo [] W w h0 hw.mod;simpa using this
 ·exact yD.of_mod hw.mod (fun k hk=>⟨hlt k hk,by simp⟩)
 ·repeat (first|exact Kle.nil|refine Kle.cons rfl rfl ?_)
 ·rintro k w1 ⟨hk,hJ,hKp,hsz⟩;have hlw:∀ j∈[gA,gN,bA,bN],j<w1.heap.size:=fun j hj=>Nat.lt_of_lt_of_le (hlt j hj) hsz;have hA':=hKp.seg (b:=gA) (by simp) hA;have hN':=hKp.seg (b:=gN) (by simp) hN;refine WI.seq (WI.region ?_ (by exact hQ));refine WO.auto (k:=?_);refine WO.nil (WX.seqI ?_);refine WI.seq ?_
  by_cases hkl:k<xs.length
  ·refine WI.condT (show some (Value.bool (decide ((k:Int)<(xs.length:Int))))=some (Value.bool true) by rw[decide_eq_true Om]) ?_;refine WI.skip (WX.seqI ?_);obtain⟨x,hx⟩ : ∃ x,xs[k]?=some x:=⟨_,List.getElem?_eq_getElem hkl⟩;have hSA':=hKp.seg (b:=bA) (by simp) (hSA k x hx);have hSN':=hKp.seg (b:=bN) (by simp) (hSN k x hx);have hx' : xs.take k++[x]=xs.take (k+1):=by rw[List.take_add_one,hx];rfl
   refine WI.seq ?_;refine WI.block ?_;refine WI.seq (WI.region ?_ (by exact hQ));refine WO.auto (k:=?_);refine WO.auto (k:=?_);refine WO.nil (WX.seqI ?_);refine WI.seq ?_;refine WI.headQ 9 (by exact hQ) ?_;refine DQ.does (fun s _=>vL rfl) Dp.const ?_;refine DQ.does (fun s _=>vP hA' (i:=0) rfl List.not_mem_nil rfl) Dp.const ?_;refine DQ.does (fun s _=>vL rfl) Dp.const ?_;refine DQ.does (fun s _=>zb (o':=oA+k*4) rfl rfl hkl rfl) Dp.const ?_;refine DQ.does (fun s _=>um hSA' (i:=0) rfl List.not_mem_nil (vs:=zc (fa x)) rfl rfl) Dp.const ?_;refine DQ.does (fun s _=>vP hN' (i:=0) rfl List.not_mem_nil rfl) Dp.const ?_;refine DQ.does (fun s _=>vL rfl) Dp.const ?_;refine DQ.does (fun s _=>zb (o':=oN+k*4) rfl rfl hkl rfl) Dp.const ?_;refine DQ.does (fun s _=>um hSN' (i:=0) rfl List.not_mem_nil (vs:=zc (fn x)) rfl rfl) Dp.const ?_;refine DQ.anil (hL:=fun s=>rfl) ?_;intro sx _;refine WO.nil (WX.headV ?_ (by exact hQ));refine VA.yield (i:=9) (S':=[true,true,true,true,true,true,true,true,true,true,false]) (vs:=[zk (fa x),zk (fn x)]) rfl rfl (fun w2 h2=>hY (xs.take k) x w2 (hJo _ _ _ hJ h2.mod) (by rw[List.length_take];omega)) (fun w2 e w3 h2 hR=>?_);have hKw:yD [gA,gN,bA,bN] W w2:=hKp.trans (yD.of_mod h2.mod (fun j hj=>⟨hlw j hj,by simp⟩));have hs2:=Nat.le_trans hsz h2.mod.size
   rcases hR with ⟨rfl,hR,hK3,hs3⟩|⟨rfl,hR⟩
   ·refine⟨true,rfl,?_⟩;rw[hx'] at hR;refine VA.step (S:=[true,true,true,true,true,true,true,true,true,true,false]) (f:=0) [10] ?_;refine tI.cons (fun hQ1 hd1=>?_) tI.nil;refine WO.auto (k:=?_);refine WO.nil (WX.va (VA.done (S:=List.replicate 11 true) ?_) hQ1 hd1);refine WX.seqI (WI.condF rfl ?_);refine WI.skip (WX.blk_normal (WX.seqI ?_));refine WI.region ?_ (by exact hQ);have e1:IntKind.i64.wrap ((k:Int)+1)=((k+1:Nat):Int):=zo Om Om Om;refine WO.does (ze rfl rfl e1) ?_;refine WO.auto (k:=?_);refine WO.nil ?_;refine WX.metW (k+1) Om Kle.a (fun w4 h4=>⟨by omega,hJo _ _ _ hR h4.mod,?_,Nat.le_trans hs2 (Nat.le_trans hs3 h4.mod.size)⟩);exact (hKw.trans hK3).trans (yD.of_mod h4.mod (fun j hj=>⟨Nat.lt_of_lt_of_le (hlt j hj) (Nat.le_trans hs2 hs3),by simp⟩))
   ·refine⟨false,rfl,?_⟩;rw[hx'] at hR;refine VA.step (S:=[true,true,true,true,true,true,true,true,true,true,false]) (f:=0) [10] ?_;refine tI.cons (fun hQ1 hd1=>?_) tI.nil;refine WO.auto (k:=?_);refine WO.nil (WX.va (VA.done (S:=List.replicate 11 true) ?_) hQ1 hd1);refine WX.seqI (WI.condT rfl ?_);refine WI.ret ?_;refine WX.blk_ret (WX.then_ret (WX.then_ret (WX.blk_ret ?_)));intro a w4 g1 g2 g3 g4;exact bodyPost_ret (results_none rfl _ _ _) g1 ⟨⟨_,rfl⟩,.inr ⟨_,trivial,hJxo _ _ _ hR g4.mod⟩⟩
  ·refine WI.condF (show some (Value.bool (decide ((k:Int)<(xs.length:Int))))=some (Value.bool false) by rw[decide_eq_false Om]) ?_;refine WI.exit (WX.then_exit (WX.then_exit (WX.blk_exit ?_)));intro a w4 g1 g2 g3 g4;obtain rfl:k=xs.length:=by omega
   refine bodyPost_end (results_none rfl _ _ _) g1 ⟨⟨_,rfl⟩,.inl ⟨xs,rfl,?_⟩⟩;have:=hJo _ _ _ hJ g4.mod;rwa [List.take_length] at this
end Sx
end
section
open Go Go.RowKit Go.BigFrame
namespace Sx
def KpB (ks:List Nat) (A B:World):Prop:=yD ks A B∧A.heap.size≤B.heap.size
theorem KpB.trans {ks:List Nat} {A B C:World} (h:KpB ks A B) (k:KpB ks B C):KpB ks A C:=⟨h.1.trans k.1,Nat.le_trans h.2 k.2⟩
theorem KpB.put {ks:List Nat} {n:Nat} (hk:∀ k∈ks,k<n) (W:World) (l:Nat) (o o' : Obj) (hl:n≤l) (h1:W.heap[l]?=some o) (h2:o.isCells=false) (h3:o.isWalk=false):KpB ks W (W.putObj l o'):=⟨yD.put hk W l o o' hl h1 h2 h3,by simp⟩
theorem k8 (m:Nat) {α:Type} (fa fn:α→Nat) (xs:List α) (gA gN bA oA bN oN cA cN:Nat) (hn:xs.length≤1099511627776) (w:World) (hlt:∀ k∈[gA,gN,bA,bN],k<w.heap.size)
  (hA:Seg w gA 0 [.slice (some ⟨bA,oA,none⟩) xs.length cA]) (hN:Seg w gN 0 [.slice (some ⟨bN,oN,none⟩) xs.length cN]) (hSA:∀ k x,xs[k]?=some x→Seg w bA (oA+k*4) (zc (fa x))) (hSN:∀ k x,xs[k]?=some x→Seg w bN (oN+k*4) (zc (fn x))) :
  SeqStopsK Fence.wide m Tryz.prog 212 #[pt gA,pt gN] (fun x:α=>#[zk (fa x),zk (fn x)]) (KpB [gA,gN,bA,bN]) (fun ys=>ys=xs) (fun _=>True) xs.length w:=fun l J Jx W hW hJ hJx hY h0=>by
 have hk:yD [gA,gN,bA,bN] w W:=fun k hk=>hW.block k (hlt k hk)
 refine aba m fa fn xs gA gN bA oA bN oN cA cN l J Jx hn (fun s A B h hm=>hJ s A B none h ⟨hm.os,hm.tape,hm.output,hm.size,fun k hk _=>hm.block k hk (by simp)⟩ (by simp)) (fun s A B h hm=>hJx s A B none h ⟨hm.os,hm.tape,hm.output,hm.size,fun k hk _=>hm.block k hk (by simp)⟩ (by simp))
  hY W (hk.seg (by simp) hA) (hk.seg (by simp) hN) (fun k x h=>hk.seg (by simp) (hSA k x h)) (fun k x h=>hk.seg (by simp) (hSN k x h)) (fun k hk=>Nat.lt_of_lt_of_le (hlt k hk) hW.size) h0
abbrev PwT (p:Nat):Type:={ x:Nat × Nat // x.1<zd∧x.2<zd∧yv p x.1=true }
def uo (p:Nat) (l:List (PwT p)):Nat:=l.foldl (fun r x=>r*(x.1.1 ^ x.1.2%p)%p) 1
theorem pR (p:Nat) (l:List (PwT p)) (x:PwT p):uo p (l++[x])=uo p l*(x.1.1 ^ x.1.2%p)%p:=by unfold uo;rw[List.foldl_append];rfl
theorem abU {p:Nat} (h:1<p) (l:List (PwT p)):uo p l<p:=by
 rcases List.eq_nil_or_concat l with rfl|⟨l,x,rfl⟩
 ·exact h
 ·rw[List.concat_eq_append,pR];exact Nat.mod_lt _ Om
theorem lm (p q g h:Nat) (hp:p<zd) (h1:1<p) (xs:List (PwT p)) (bA oA bN oN cA cN:Nat) (hn:xs.length≤1099511627776) :
  Fn Tryz.prog 139 [y9 p q g h,.slice (some ⟨bA,oA,none⟩) xs.length cA,.slice (some ⟨bN,oN,none⟩) xs.length cN]
   (fun w=>bA<w.heap.size∧bN<w.heap.size∧(∀ (k:Nat) (x:PwT p),xs[k]?=some x→Seg w bA (oA+k*4) (zc x.1.1))∧(∀ (k:Nat) (x:PwT p),xs[k]?=some x→Seg w bN (oN+k*4) (zc x.1.2))) (Is (.tuple #[zk (uo p xs),.int .i64 0])):=by
 intro w ⟨hbA,hbN,hSA,hSN⟩;have hC:=kY p 1 hp y7;rw[jn h1] at hC;have hPr:=ad8 (some ⟨bA,oA,none⟩) (some ⟨bN,oN,none⟩) xs.length xs.length cA cN;refine sV (n:=52) 3 Tryz.func139 rfl rfl rfl ?_
 repeat (first|refine Ta ?_|(refine Tm ?_;intro _)|refine WO.acall (hc:=ud) (k:=?_)|refine WO.acall (hc:=hC) (k:=?_)|refine WO.acallX (hc:=hPr) (hR:=fun _ _=>trivial) (k:=fun s _=>?_)|refine Tc ?_|exact Tz)
 rename_i g3 g6 g7 g8;refine WC.condF (show some (Value.bool (decide ((xs.length:Int)≠(xs.length:Int))))=some (Value.bool false) by simp) ?_
 repeat (first|refine Ta ?_|(refine Tm ?_;intro _)|refine WO.acallX (hc:=hPr) (hR:=fun _ _=>trivial) (k:=fun s _=>?_)|refine Tc ?_|exact Tz)
 generalize s 0=gA;generalize s 1=gN;refine WC.ndp' (fun hnd=>?_);refine WC.mine (fun hmn=>?_);simp only[List.map_append,List.map_cons,List.map_nil,List.cons_append,List.nil_append] at hnd hmn;intro a w1 d1 d2 d3 d4;have l3:=(d4.ok ⟨g3,_,_⟩ (Hs.mem Hs.a)).lt;have l6:=(d4.ok ⟨g6,_,_⟩ (Hs.mem Hs.a)).lt;have l7:=(d4.ok ⟨g7,_,_⟩ (Hs.mem Hs.a)).lt;have l8:=(d4.ok ⟨g8,_,_⟩ (Hs.mem Hs.a)).lt;have lA:=(d4.ok ⟨gA,_,_⟩ (Hs.mem Hs.a)).lt;have lN:=(d4.ok ⟨gN,_,_⟩ (Hs.mem Hs.a)).lt;have sA:=(d4.ok ⟨gA,_,_⟩ (Hs.mem Hs.a)).seg 0;have sN:=(d4.ok ⟨gN,_,_⟩ (Hs.mem Hs.a)).seg 0;simp only[List.drop_zero] at l3 l6 l7 l8 lA lN sA sN;have hn0:=d4.mod.size;have B8:w.heap.size≤g8:=(hmn _ (List.mem_cons_of_mem _ (List.mem_cons_of_mem _ (List.mem_cons_self ..)))).resolve_right (by simp);have hne:gN≠g8∧gA≠g8∧g8≠g3∧g8≠g7∧g8≠g6∧g7≠g6:=by
  simp only[List.nodup_cons,List.mem_cons,List.not_mem_nil,or_false,not_or] at hnd;exact⟨hnd.1.2.1,hnd.2.1.1,hnd.2.2.1.2.2,hnd.2.2.1.1,hnd.2.2.1.2.1,hnd.2.2.2.1.1⟩
 have B7:w.heap.size≤g7:=(hmn _ (List.mem_cons_of_mem _ (List.mem_cons_of_mem _ (List.mem_cons_of_mem _ (List.mem_cons_self ..))))).resolve_right (by simp);have B6:w.heap.size≤g6:=(hmn _ (List.mem_cons_of_mem _ (List.mem_cons_of_mem _ (List.mem_cons_of_mem _ (List.mem_cons_of_mem _ (List.mem_cons_self ..)))))).resolve_right (by simp);obtain⟨hne1,hne2,hne3,hne4,hne5,hne6⟩:=hne;clear hnd hmn;have hbA8:bA≠g8:=by omega
 have hbN8:bN≠g8:=by omega
 have mA:yD [bA,bN] w w1:=yD.of_mod d4.mod (fun k hk=>⟨by simp at hk;omega,by simp⟩);have hks:∀ k∈[gA,gN,bA,bN],k<w1.heap.size∧k≠g8:=by
  intro k hk;simp at hk;omega
 refine (wpIn_wide (n:=3)).1 ?_
 refine wpIn_rangeFunc_ownH (F:=Fence.wide) rfl Om (gf:=212) (lb:=#[pt gA,pt gN]) (d3.eval (x:=.tmp 29) rfl) trivial (enters_of Tryz.func212 (by kernel_rfl) rfl)
  (k8 2 (fun x:PwT p=>x.1.1) (fun x=>x.1.2) xs gA gN bA oA bN oN cA cN hn w1 (fun k hk=>(hks k hk).1) sA sN (fun k x hx=>mA.seg (by simp) (hSA k x hx)) (fun k x hx=>mA.seg (by simp) (hSN k x hx)))
  KpB.trans (KpB.put (fun k hk=>(hks k hk).1)) (Below.refl _ _) (fun _=>rfl)
  (fun pre W=>Me w [] [⟨g8,24,zc (uo p pre)⟩,⟨g7,38,[.int .i64 0]⟩,⟨g6,24,zc 0⟩,⟨g3,26,yr p q g h⟩] W∧w1.heap.size≤W.heap.size)
  (fun _ _ _=>False)
  (fun pre A B row hs hg hr=>⟨hs.1.own hn0 hg hr,Nat.le_trans hs.2 hg.size⟩)
  (fun _ _ _ _ _ hs _ _=>hs)
  ⟨Lle.me (L':=[⟨g8,24,zc (uo p [])⟩,⟨g7,38,[.int .i64 0]⟩,⟨g6,24,zc 0⟩,⟨g3,26,yr p q g h⟩]) (by repeat (first|exact Lle.nil|refine Lle.c ?_)) d4,Nat.le_refl _⟩
  (fun x a' W=>a'.defers=[]∧a'.tmps.size=52∧∃ q9 q10,Kn [(3,pt g3),(6,pt g6),(7,pt g7),(8,pt g8),(9,pt q9),(10,pt q10)] a'∧(⟨q9,24,zc x.1.1⟩ : Ent).ok W∧(⟨q10,24,zc x.1.2⟩ : Ent).ok W∧w1.heap.size≤q9∧w1.heap.size≤q10)
  (fun x a' _ A B row ⟨e1,e2,q9,q10,e3,e4,e5,e6⟩ hg hr=>⟨e1,e2,q9,q10,e3,e4.own hg hr,e5.own hg hr,e6⟩)
  ?assign ?body ?done ?stop
 case assign =>
  intro l pre x W K hI hK;have hQ:¬ LetsOut (Exit.then K (fun _ _ _=>False)):=fun ⟨_,_,h⟩=>h;have hkn:Kn [(30,zk x.1.1),(31,zk x.1.2),(3,pt g3),(6,pt g6),(7,pt g7),(8,pt g8)] { tmps:=((#[30,31]:Array Tmp).zip #[zk x.1.1,zk x.1.2]).foldl (fun t (p,v)=>t.setIfInBounds p v) a.tmps,defers:=[] }:=by
   have k00:Kn [(3,pt g3),(6,pt g6),(7,pt g7),(8,pt g8)] a:=Kle.kn d3 Kle.a;have k0:Kn [(3,pt g3),(6,pt g6),(7,pt g7),(8,pt g8)] ({ a with defers:=[] }:Act):=k00;have k1:=k0.put (d:=30) (by show 30<a.tmps.size;omega) (zk x.1.1);have k2:=k1.put (d:=31) (by rw[ym];show 31<a.tmps.size;omega) (zk x.1.2);have k3:Kn [(30,zk x.1.1),(31,zk x.1.2),(3,pt g3),(6,pt g6),(7,pt g7),(8,pt g8)] _:=Kle.kn k2 Kle.a;intro t v ht;have k4:=k3 t v ht;simpa [Act.put,Array.zip] using k4
  suffices HH:WI (some l) 1 Tryz.prog W [] 52 _ (Exit.then K (fun _ _ _=>False)) [(30,zk x.1.1),(31,zk x.1.2),(3,pt g3),(6,pt g6),(7,pt g7),(8,pt g8)] [] from HH _ W rfl (by simp[d2]) hkn (Me.refl W [])
  repeat (first|refine WO.nil ?_|refine WO.skip ?_|refine WX.seqI ?_|refine WI.seq ?_|refine WI.region ?_ (by exact hQ)|refine WO.autoS (k:=?_)|(refine WO.autoM (k:=?_);intro _)|refine WO.auto (k:=?_)|refine WO.does yK ?_|refine WO.does u7 ?_|refine WI.ret ?_|refine WI.skip ?_|refine WX.then_ret ?_|refine WX.noPanic ?_|refine WX.blk_normal ?_|refine WX.blk_ret ?_|refine WX.then_exit ?_|refine WX.blk_exit ?_|refine WX.blk_pass rfl ?_|refine WI.exit ?_|refine WI.block ?_|refine WX.scp_normal ?_|refine WX.scp_ret ?_|refine WX.scp_exit ?_|refine WI.condT rfl ?_|refine WI.condF rfl ?_)
  rename_i q9 q10;intro a2 W2 e1 e2 e3 e4;have o9:=e4.ok ⟨q9,_,_⟩ (Hs.mem Hs.a);have o10:=e4.ok ⟨q10,_,_⟩ (Hs.mem Hs.a);have m9:=(e4.mine ⟨q9,_,_⟩ (Hs.mem Hs.a)).resolve_right (by simp);have m10:=(e4.mine ⟨q10,_,_⟩ (Hs.mem Hs.a)).resolve_right (by simp)
  refine hK a2 W2 ⟨e4.mod.size,fun k o _ hk _=>(e4.mod.block k (Array.getElem?_eq_some_iff.1 hk).1 (by simp)).trans hk⟩ ⟨yD.of_mod e4.mod (fun k hk=>⟨Nat.lt_of_lt_of_le (hks k hk).1 hI.2,by simp⟩),e4.mod.size⟩ ⟨hI.1.below e4.mod.below,Nat.le_trans hI.2 e4.mod.size⟩
   ⟨e1,e2,q9,q10,Kle.kn e3 Kle.a,o9,o10,Nat.le_trans hI.2 m9,Nat.le_trans hI.2 m10⟩
 case body =>
  rintro l pre x a' W hl _ ⟨hI,hIs⟩ ⟨e1,e2,q9,q10,e3,o9,o10,hq9,hq10⟩ _;obtain⟨⟨xa,xn⟩,hxa,hxn,hxm⟩:=x;dsimp only at o9 o10 hxa hxn hxm;have hE:=yZ p q g h xa xn hxa hxn hp;rw[hxm] at hE;have hPl:=abU h1 pre;have hsn:=pR p pre ⟨(xa,xn),hxa,hxn,hxm⟩;dsimp only at hsn;have hEl:xa ^ xn%p<p:=Nat.mod_lt _ Om;have hM:=afd (uo p pre) (xa ^ xn%p) p (Nat.lt_trans hPl hp) (Nat.lt_trans hEl hp) hp;have hmay:zQ (uo p pre) (xa ^ xn%p) p=true:=by simp[zQ,h1,hPl,hEl]
  rw[hmay,← hsn] at hM;have i8:=hI.ok ⟨g8,_,_⟩ (Hs.mem Hs.a);have i3:=hI.ok ⟨g3,_,_⟩ (Hs.mem Hs.a);have s3:=i3.seg 0;have s9:=o9.seg 0;have s10:=o10.seg 0;have b3:g3 ∉ [g8]:=by simp;omega
  have b9:q9 ∉ [g8]:=by simp;omega
  have b10:q10 ∉ [g8]:=by simp;omega
  simp only[List.drop_zero] at s3 s9 s10;have hm0:Me W [g8] [⟨g8,24,zc (uo p pre)⟩] W:=⟨.refl _ _,by simpa using i8,by simp,by simp⟩;generalize hRg:uo p (pre++[⟨(xa,xn),hxa,hxn,hxm⟩])=R at *;have hRR:=Lib.hid hRg;clear hRg;generalize hgP:uo p pre=Pp at *;generalize xa ^ xn%p=E at *;have hQ:¬ LetsOut (ownPostG w1.heap.size (KpB [gA,gN,bA,bN]) (fun (pre:List (PwT p)) W=>Me w [] [⟨g8,24,zc (uo p pre)⟩,⟨g7,38,[.int .i64 0]⟩,⟨g6,24,zc 0⟩,⟨g3,26,yr p q g h⟩] W∧w1.heap.size≤W.heap.size) (fun _ _ _=>False) (pre++[⟨(xa,xn),hxa,hxn,hxm⟩]) W):=fun ⟨_,_,h⟩=>h
  suffices HH:WI (some l) 1 Tryz.prog W [g8] 52 _ (ownPostG w1.heap.size (KpB [gA,gN,bA,bN]) (fun (pre:List (PwT p)) W=>Me w [] [⟨g8,24,zc (uo p pre)⟩,⟨g7,38,[.int .i64 0]⟩,⟨g6,24,zc 0⟩,⟨g3,26,yr p q g h⟩] W∧w1.heap.size≤W.heap.size) (fun _ _ _=>False) (pre++[⟨(xa,xn),hxa,hxn,hxm⟩]) W) [(3,pt g3),(6,pt g6),(7,pt g7),(8,pt g8),(9,pt q9),(10,pt q10)] [⟨g8,24,zc Pp⟩] from HH a' W e1 e2 e3 hm0
  have hE' : okV true E=E:=rfl
  repeat (first|refine WO.does (zj (hs:=s3) (hb:=b3)) ?_|refine WO.does (zj (hs:=s9) (hb:=b9)) ?_|refine WO.does (zj (hs:=s10) (hb:=b10)) ?_|refine WO.nil ?_|refine WO.skip ?_|refine WX.seqI ?_|refine WI.seq ?_|refine WI.region ?_ (by exact hQ)|refine WO.autoS (k:=?_)|(refine WO.autoM (k:=?_);intro _)|refine WO.acall (hc:=hE) (k:=?_)|refine WO.acall (hc:=hM) (k:=?_)|refine WO.auto (k:=?_)|refine WO.does yK ?_|refine WO.does u7 ?_|refine WI.ret ?_|refine WI.skip ?_|refine WX.then_ret ?_|refine WX.noPanic ?_|refine WX.blk_normal ?_|refine WX.blk_ret ?_|refine WX.then_exit ?_|refine WX.blk_exit ?_|refine WX.blk_pass rfl ?_|refine WI.exit ?_|refine WI.block ?_|refine WX.scp_normal ?_|refine WX.scp_ret ?_|refine WX.scp_exit ?_|refine WI.condT rfl ?_|refine WI.condF rfl ?_)
  rename_i q11;intro a2 W2 f1 f2 f3 f4;have f8:=f4.ok ⟨g8,_,_⟩ (Hs.mem Hs.a);refine⟨⟨f4.mod.size,fun k o hk0 hk _=>(f4.mod.block k (Array.getElem?_eq_some_iff.1 hk).1 (by simp;omega)).trans hk⟩,⟨yD.of_mod f4.mod (fun k hk=>⟨Nat.lt_of_lt_of_le (hks k hk).1 hIs,by simpa using (hks k hk).2⟩),f4.mod.size⟩,?_,Nat.le_trans hIs f4.mod.size⟩;rw[hRR.out];exact hI.callM Rp.here f4.mod f8 (by decide)
 case done =>
  rintro D ys W hD rfl ⟨hI,hIs⟩ hK;have i8:=hI.ok ⟨g8,_,_⟩ (Hs.mem Hs.a);have i7:=hI.ok ⟨g7,_,_⟩ (Hs.mem Hs.a);have i6:=hI.ok ⟨g6,_,_⟩ (Hs.mem Hs.a);have s8:=i8.seg 0;simp only[List.drop_zero] at s8;have b8:g8 ∉ [g7,g6]:=by simp;exact⟨hne4,hne5⟩
  have hm0:Me W [g7,g6] [⟨g7,38,[.int .i64 0]⟩,⟨g6,24,zc 0⟩] W:=⟨.refl _ _,by simpa using ⟨i7,i6⟩,by simp,by simpa using hne6⟩;have hlD:D<W.heap.size:=(Array.getElem?_eq_some_iff.1 hK).1;refine WO.tail (w0:=W) (gs:=[g7,g6]) (n:=52) (K:=[(3,pt g3),(6,pt g6),(7,pt g7),(8,pt g8)]) (L:=[⟨g7,38,[.int .i64 0]⟩,⟨g6,24,zc 0⟩]) rfl d2 (Kle.kn d3 Kle.a) hm0 ?_
  repeat (first|refine WO.does (zj (hs:=s8) (hb:=b8)) ?_|refine Ta ?_|(refine Tm ?_;intro _)|refine Tc ?_|exact Tz)
  intro a2 W2 f1 f2 f3 f4;have hK2:W2.heap[D]?=some (.deferred (some [])):=(f4.mod.block D hlD (by simp;omega)).trans hK;refine wp_ret ?_;have hdf:(dfA ({ target:=.collected D,args:=#[] }::a.defers) a2).defers=[{ target:=.collected D,args:=#[] }]:=by simp[dfA,f1,d1]
  show LeavesInM Fence.wide 3 Tryz.prog Tryz.f139 a2.tmps _ (dfA ({ target:=.collected D,args:=#[] }::a.defers) a2).defers .returning W2;rw[hdf];refine⟨by simp,.inl ⟨_,_,rfl,run_takeDeferred hK2,?_⟩⟩;have f7:=f4.ok ⟨g7,_,_⟩ (Hs.mem Hs.a);have f6:=f4.ok ⟨g6,_,_⟩ (Hs.mem Hs.a);have hB:Below w.heap.size w W2:=⟨f4.mod.os.trans hI.mod.os,f4.mod.tape.trans hI.mod.tape,f4.mod.output.trans hI.mod.output,Nat.le_trans hI.mod.size f4.mod.size,fun k hk=>(f4.mod.block k (Nat.lt_of_lt_of_le hk hI.mod.size) (by simp;omega)).trans (hI.mod.block k hk (by simp))⟩;have hB3:=hB.trans (belowK_b (w:=w) (Nat.le_refl _) W2 D _ (.deferred none) Om hK2 rfl rfl);have p7:=f7.keep (w':=W2.putObj D (.deferred none)) (World.putObj_heap_other (by show g7≠D;omega));have p6:=f6.keep (w':=W2.putObj D (.deferred none)) (World.putObj_heap_other (by show g6≠D;omega));generalize W2.putObj D (.deferred none)=W3 at *;have hm3:Me W3 [g7,g6] _ W3:=⟨.refl _ _,fun e he=>(List.mem_cons.1 he).elim (fun h=>h ▸ p7) (fun he=>(List.mem_singleton.1 he) ▸ p6),by simp,by simpa using hne6⟩;have h:=aaY (P:=Tryz.prog) (yN (P:=Tryz.prog) (p:=6) (t:=24) (K:=[(3,pt g3),(6,pt g6),(7,pt g7),(8,pt g8)]) rfl (Hs.there Hs.here) (vs:=zc (uo p ys)) rfl rfl a2 W3 (Kle.kn f3 Kle.a) hm3) (rq (P:=Tryz.prog) (p:=7) (t:=38) (K:=[(3,pt g3),(6,pt g6),(7,pt g7),(8,pt g8)]) rfl Hs.here (v:=.int .i64 0) rfl a2 W3 (Kle.kn f3 Kle.a) hm3);refine⟨.tuple #[zk (uo p ys),.int .i64 0],?_,_,[],rfl,hB3,eO.nil _ _,rfl⟩;rw[yz,show Tryz.f139.results=#[.cell 6 24,.cell 7 38] from rfl,Sem.run_bind,h];rfl
 case stop =>
  rintro D c pre W _ _ h _;exact h.elim
end Sx
end
section
open Go Go.RowKit Go.BigFrame
namespace Sx
attribute [local irreducible] DQ WC WO
theorem ec (pa:Option Addr) (la ca:Nat):Fn Tryz.prog 158 [.slice pa la ca] Tr (Ex (fun s=>.func (.func 200) #[] #[pt (s 0)]) (fun s=>[⟨s 0,42,[.slice pa la ca]⟩]) (fun _=>True)):=by
 refine Fn.enter Tryz.func158 rfl rfl rfl ?_;intro w hw
 repeat (first|refine Ta ?_|(refine Tm ?_;intro _)|refine WO.does (zH rfl rfl) ?_|refine Tc ?_|exact Tz)
 rename_i g1;exact WX.ret1 rfl (zX rfl) [⟨g1,42,[.slice pa la ca]⟩] (Lle.cons Pk.here rfl Lle.nil) ⟨fun _=>g1,rfl,rfl,trivial⟩
theorem adG (m:Nat) {α:Type} (fi fa:α→Nat) (xs:List α) (pa:Option Addr) (gA bA oA cA l:Nat) (J Jx:List α→World→Prop) (hn:xs.length≤1099511627776) (hJo:∀ s A B,J s A→Mod [] A B→J s B) (hJxo:∀ s A B,Jx s A→Mod [] A B→Jx s B)
  (hY:∀ pre x W,J pre W→pre.length<xs.length→YieldAt (fw none) (m - 1) Tryz.prog l #[.int .i64 (fi x:Int),zk (fa x)] W fun e W'=>(e=.returned (.bool true)∧J (pre++[x]) W'∧yD [gA,bA] W W'∧W.heap.size≤W'.heap.size)∨(e=.returned (.bool false)∧Jx (pre++[x]) W'))
  (W:World) (hA:Seg W gA 0 [.slice pa xs.length cA]) (hpa:xs≠[]→pa=some ⟨bA,oA,none⟩) (hfi:∀ k x,xs[k]?=some x→fi x=xs.length - 1 - k) (hSA:∀ k x,xs[k]?=some x→Seg W bA (oA+(xs.length - 1 - k)*4) (zc (fa x))) (hlt:∀ k∈[gA,bA],k<W.heap.size) (h0:J [] W) :
  CallsIn (fw none) m Tryz.prog 200 [.func (.yield l) #[] #[],pt gA].toArray W fun e W'=>(∃ v,e=.returned v)∧((∃ ys,ys=xs∧J ys W')∨(∃ pre,True∧Jx pre W')):=by
 refine uB (n:=19) Tryz.func200 rfl rfl rfl ?_;have hQ:¬ LetsOut (bodyPost Tryz.prog Tryz.f200 fun e W'=>(∃ v,e=.returned v)∧((∃ ys,ys=xs∧J ys W')∨(∃ pre,True∧Jx pre W'))):=by
  rintro ⟨a,w,⟨v,h⟩,_⟩;cases h
 have e0:IntKind.i64.wrap ((xs.length:Int) - 1)=(xs.length:Int) - 1 - ((0:Nat):Int):=zo Om Om Om;refine WI.seq (WI.region ?_ (by exact hQ));refine WO.does (zm (hs:=hA)) ?_;refine WO.auto (k:=?_);refine WO.does (zr rfl rfl e0) ?_;refine WO.auto (k:=?_);refine WO.nil (WX.seqI ?_);refine WI.block ?_;refine WI.loopW (σ:=Nat) (fun k=>[(0,.func (.yield l) #[] #[]),(1,pt gA),(3,.int .i64 ((xs.length:Int) - 1 - (k:Int)))]) (fun k w=>k≤xs.length∧J (xs.take k) w∧yD [gA,bA] W w∧W.heap.size≤w.heap.size) (fun k=>xs.length - k) 0 (fun w hw=>⟨Nat.zero_le _,?_,?_,hw.mod.size⟩) ?_ ?_
 ·have:=hJo [] W w h0 hw.mod;simpa using this
 ·exact yD.of_mod hw.mod (fun k hk=>⟨hlt k hk,by simp⟩)
 ·repeat (first|exact Kle.nil|refine Kle.cons rfl rfl ?_)
 ·rintro k w1 ⟨hk,hJ,hKp,hsz⟩;have hlw:∀ j∈[gA,bA],j<w1.heap.size:=fun j hj=>Nat.lt_of_lt_of_le (hlt j hj) hsz;have hA':=hKp.seg (b:=gA) (by simp) hA;refine WI.seq (WI.seq (WI.region ?_ (by exact hQ)));refine WO.auto (k:=?_)
  by_cases hkl:k<xs.length
  ·rw[show (xs.length:Int) - 1 - (k:Int)=((xs.length - 1 - k:Nat):Int) by omega];refine WO.does (tJ rfl rfl Om) ?_;refine WO.nil (WX.seqI ?_);refine WI.condT rfl ?_;refine WI.skip (WX.seqI ?_);obtain⟨x,hx⟩ : ∃ x,xs[k]?=some x:=⟨_,List.getElem?_eq_getElem hkl⟩;have hSA':=hKp.seg (b:=bA) (by simp) (hSA k x hx);have hfx:=hfi k x hx;have hx' : xs.take k++[x]=xs.take (k+1):=by rw[List.take_add_one,hx];rfl
   have hix:xs.length - 1 - k<xs.length:=by omega
   obtain rfl:=hpa (by rintro rfl;simp at hkl);generalize hj:xs.length - 1 - k=j at *;have e1:IntKind.i64.wrap ((j:Int) - 1)=(xs.length:Int) - 1 - ((k+1:Nat):Int):=zo Om Om Om;refine WI.seq ?_;refine WI.block ?_;refine WI.seq (WI.regionY 6 (by exact hQ) ?_);simp only[List.take_succ_cons,List.take_zero,List.drop_succ_cons,List.drop_zero];refine WO.does (vL rfl) ?_;refine WO.does (vL rfl) ?_;refine WO.does (zm (hs:=hA')) ?_;refine WO.does (vL rfl) ?_;refine WO.does (zb (o':=oA+j*4) rfl rfl hix rfl) ?_;refine WO.does (zj (vs:=zc (fa x)) (hs:=hSA')) ?_;refine WO.nil (WX.woi ?_);refine WOI.yield (vs:=[.int .i64 (j:Int),zk (fa x)]) rfl rfl (fun w2 h2=>hfx ▸ hY (xs.take k) x w2 (hJo _ _ _ hJ h2.mod) (by rw[List.length_take];omega)) (fun w2 e w3 h2 hR=>?_);have hKw:yD [gA,bA] W w2:=hKp.trans (yD.of_mod h2.mod (fun j hj=>⟨hlw j hj,by simp⟩));have hs2:=Nat.le_trans hsz h2.mod.size
   rcases hR with ⟨rfl,hR,hK3,hs3⟩|⟨rfl,hR⟩
   ·refine⟨true,rfl,?_⟩;rw[hx'] at hR;refine WOI.of (by exact hQ) ?_;refine WO.auto (k:=?_);refine WO.nil (WX.seqI ?_);refine WI.condF rfl ?_;refine WI.skip (WX.blk_normal (WX.seqI ?_));refine WI.region ?_ (by exact hQ);refine WO.auto (k:=?_);refine WO.does (zr rfl rfl e1) ?_;refine WO.auto (k:=?_);refine WO.nil ?_;refine WX.metW (k+1) Om Kle.a (fun w4 h4=>⟨by omega,hJo _ _ _ hR h4.mod,?_,Nat.le_trans hs2 (Nat.le_trans hs3 h4.mod.size)⟩);exact (hKw.trans hK3).trans (yD.of_mod h4.mod (fun j hj=>⟨Nat.lt_of_lt_of_le (hlt j hj) (Nat.le_trans hs2 hs3),by simp⟩))
   ·refine⟨false,rfl,?_⟩;rw[hx'] at hR;refine WOI.of (by exact hQ) ?_;refine WO.auto (k:=?_);refine WO.nil (WX.seqI ?_);refine WI.condT rfl ?_;refine WI.ret ?_;refine WX.blk_ret (WX.then_ret (WX.then_ret (WX.blk_ret ?_)));intro a w4 g1 g2 g3 g4;exact bodyPost_ret (results_none rfl _ _ _) g1 ⟨⟨_,rfl⟩,.inr ⟨_,trivial,hJxo _ _ _ hR g4.mod⟩⟩
  ·refine WO.does (yo rfl rfl Om) ?_;refine WO.nil (WX.seqI ?_);refine WI.condF rfl ?_;refine WI.exit (WX.then_exit (WX.then_exit (WX.blk_exit ?_)));intro a w4 g1 g2 g3 g4;obtain rfl:k=xs.length:=by omega
   refine bodyPost_end (results_none rfl _ _ _) g1 ⟨⟨_,rfl⟩,.inl ⟨xs,rfl,?_⟩⟩;have:=hJo _ _ _ hJ g4.mod;rwa [List.take_length] at this
abbrev CoT (q:Nat):Type:={ x:Nat × Nat // x.2<q }
def qv {q:Nat} (l:List Nat) (h:∀ c∈l,c<q):Nat→List (CoT q)
 | 0=>[]
 | j+1=>if hj:j<l.length then ⟨(j,l[j]),h _ (List.getElem_mem hj)⟩::qv l h j else []
theorem mO {q:Nat} {l:List Nat} (h:∀ c∈l,c<q):∀ j,j≤l.length→(qv l h j).length=j
 | 0,_=>rfl
 | j+1,hj=>by rw[qv,dif_pos Om,List.length_cons,mO h j Om]
theorem kd {q:Nat} {l:List Nat} (h:∀ c∈l,c<q):∀ j,j≤l.length→∀ k x,(qv l h j)[k]?=some x→x.1.1=j - 1 - k∧l[j - 1 - k]?=some x.1.2
 | 0,_,k,x,hx=>by simp[qv] at hx
 | j+1,hj,k,x,hx=>by
  rw[qv,dif_pos Om] at hx;cases k with
  | zero =>
   simp at hx;rw[← hx];simp
  | succ k =>
   have:=kd h j Om k x (by simpa using hx);rw[show j+1 - 1 - (k+1)=j - 1 - k by omega];exact this
theorem pC {q:Nat} {l:List Nat} (h:∀ c∈l,c<q) (st:Nat→Nat→Nat):∀ j,j≤l.length→∀ r,(qv l h j).foldl (fun r (x:CoT q)=>st r x.1.2) r=(l.take j).reverse.foldl st r
 | 0,_,r=>by simp[qv]
 | j+1,hj,r=>by
  have e:l.take (j+1)=l.take j++[l[j]' Om]:=by rw[List.take_add_one,List.getElem?_eq_getElem (show j<l.length by omega)];rfl
  rw[qv,dif_pos Om,List.foldl_cons,pC h st j Om,e,List.reverse_append];rfl
def vG (q x:Nat) (l:List (CoT q)):Nat:=l.foldl (fun r c=>(r*x%q+c.1.2)%q) 0
theorem pG (q x:Nat) (l:List (CoT q)) (c:CoT q):vG q x (l++[c])=(vG q x l*x%q+c.1.2)%q:=by unfold vG;rw[List.foldl_append];rfl
theorem aa8 {q x:Nat} (h:1<q) (l:List (CoT q)):vG q x l<q:=by
 rcases List.eq_nil_or_concat l with rfl|⟨l,c,rfl⟩
 ·show 0<q;omega
 ·rw[List.concat_eq_append,pG];exact Nat.mod_lt _ Om
theorem ej (q x:Nat) (l:List Nat):eB q x l=l.foldr (fun c r=>(r*x%q+c)%q) 0:=by
 induction l with
 | nil=>rfl
 | cons c r ih=>simp only[eB,List.foldr_cons,ih]
theorem kK {q:Nat} (x:Nat) {l:List Nat} (h:∀ c∈l,c<q):vG q x (qv l h l.length)=zD l x%q:=by
 rw[← aaP,ej,vG,pC h (fun r c=>(r*x%q+c)%q) _ (Nat.le_refl _),List.take_length,List.foldl_reverse]
end Sx
end
end Go.Proofs.YtiiefkchpicncaaGreatDoor
