/- Part 28 of the proof. -/
import Derived.Test.YteibfbjpkjkejaaGreatDoorS20
import Derived.Test.YteibfbjpkjkejaaGreatDoorS25
set_option linter.unusedSimpArgs false
set_option linter.unusedVariables false
set_option maxHeartbeats 8000000
namespace Go.Proofs.YteibfbjpkjkejaaGreatDoor
section
open Go Go.RowKit Go.BigFrame
namespace Sx
attribute [local irreducible] DQ DQS WC WO WX wd
def mR (m:Nat) (s:List Nat) (Ps:List (List Nat)):Nat:=(beV (hOf s (Ps++[[0]]))*zd+beV (hOf s (Ps++[[1]])))%m
theorem adn (s:List Nat) (Ps:List (List Nat)):beV (hOf s Ps)<zd:=by
 have:=fu (pM s Ps);rw[vh] at this;exact Nat.lt_of_lt_of_eq this (by decide)
theorem dx (vs:List Value) (z:Value):over (mkz (vs.length+1) [z]) 0 vs=vs++[z]:=by
 rw[rA];unfold over;rw[List.take_zero,List.nil_append,Nat.zero_add,List.drop_replicate,show vs.length+1 - vs.length=1 by omega];rfl
theorem ya.one {vs:List Value} {Ps:List (List Nat)} {w:World} (h:ya vs Ps w):vs.all Value.oneCell'=true:=by
 rw[List.all_eq_true];intro v hv;obtain⟨i,hi,rfl⟩:=List.getElem_of_mem hv;have h1:=h.1;obtain⟨p,c,e,_⟩:=h.2 i _ _ (List.getElem?_eq_getElem hi) (List.getElem?_eq_getElem (show i<Ps.length by omega));rw[e];rfl
theorem oE (m:Nat) (s:ByteArray) (vs:List Value) (Ps:List (List Nat)) (B O C:Nat) (hm:m<zd) (h0:0<m) (hP:∀ X∈Ps,∀ x∈X,x<256) (hb:(yS (yj s) Ps).length≤1099511627776) (hs:s.size≤274877906944) :
  Fn Tryz.prog 98 [zj m,.string s,.slice (some ⟨B,O,none⟩) vs.length C] (fun w=>Seg w B O vs∧ya vs Ps w) (Is (.tuple #[zj (mR m (yj s) Ps),.int .i64 0])):=by
 refine Fn.enter Tryz.func98 rfl rfl rfl ?_;intro w hw;obtain⟨hw1,hw2⟩:=hw;have hN:=hw2.1;have hNs:Ps.length*4≤(yW Ps).length:=by
  clear hb hw2 hN hP
  induction Ps with
  | nil=>simp
  | cons X Ps ih=>simp only[yW,List.flatMap_cons,List.length_append,List.length_cons,zk] at ih ⊢;omega
 have hNb:vs.length<1099511627776:=by unfold yS at hb;rw[List.length_append] at hb;omega
 have hv1:=hw2.one;have hN1:IntKind.i64.wrap (((vs.length:Nat):Int)+1)=((vs.length+1:Nat):Int):=zr (by omega) (by omega) (by omega)
 repeat (first|refine WO.does (zl rfl rfl hN1) ?_|refine Ta ?_|(refine Tm ?_;intro _)|(refine WO.makes (yg (l:=vs.length) (c:=vs.length+1) rfl rfl (by omega) (by omega) (by omega)) ?_;intro gR)|refine WO.both (qm (st:=139) rfl rfl rfl (Rds.seg (n:=vs.length) hw1 (Nat.le_refl _) (by simp) (m:=vs.length) (xs:=vs) (by unfold cut;rw[Nat.sub_self,List.drop_zero,List.take_length])) (by rw[Nat.mul_one]) (m:=vs.length) (Nat.min_self _) (ys:=vs) (by rw[Nat.mul_one,List.take_length]) hv1 (by repeat (first|exact Rp.here|apply Rp.there)) (dx vs _) (by rw[zS];simp) (by decide)) ?_|refine Tc ?_|exact Tz)
 rename_i g3 g4 g6 g8;refine WC.ndp' (fun hnd=>?_);have h4:g4≠gR:=by simp at hnd;omega
 have h8:g8≠gR:=by simp at hnd;omega
 clear hnd;refine WC.mine (fun hmn=>?_);have hB:w.heap.size≤gR:=(hmn _ (List.mem_cons_of_mem _ (List.mem_cons_self ..))).resolve_right (by simp);clear hmn;have hF:=fun k (hk:k<256)=>adu s vs Ps gR g4 g8 w.heap.size k hP hk (by omega) hs h4 h8 hB (by omega);have hF1:=hF 1 (by decide);have hF0:=hF 0 (by decide);have hW:=ac8 _ _ m (adn (yj s) (Ps++[[1]])) (adn (yj s) (Ps++[[0]])) hm h0;have hres:mR m (yj s) Ps=(beV (hOf (yj s) (Ps++[[0]]))*zd+beV (hOf (yj s) (Ps++[[1]])))%m:=rfl;rw[hres];clear hres hF;generalize (beV (hOf (yj s) (Ps++[[0]]))*zd+beV (hOf (yj s) (Ps++[[1]])))%m=X at *;generalize beV (hOf (yj s) (Ps++[[0]]))=x0 at *;generalize beV (hOf (yj s) (Ps++[[1]]))=x1 at *;refine WC.allA (fun A hA=>?_)
 suffices hS1023:∀ z3,A [(20,.func (.func 130) #[] #[pt g4,pt g8]),(21,zj x1),(22,.func (.func 130) #[] #[pt g4,pt g8]),(23,zj x0),(24,zj m),(25,.tuple #[zj X,.int .i64 0]),(26,zj X),(27,.int .i64 0),(7,.int .i64 0),(3,pt g3),(6,pt g6),(9,.func (.func 130) #[] #[pt g4,pt g8])] [⟨gR,95,vs++[z3]⟩,⟨g8,139,[.slice (some ⟨gR,0,none⟩) vs.length (vs.length+1)]⟩,⟨g6,24,zc X⟩,⟨g4,9,[.string s]⟩,⟨g3,24,zc m⟩] (bt 10 1023) 0 by
  have hS511:∀ z3,A [(20,.func (.func 130) #[] #[pt g4,pt g8]),(21,zj x1),(22,.func (.func 130) #[] #[pt g4,pt g8]),(23,zj x0),(24,zj m),(25,.tuple #[zj X,.int .i64 0]),(26,zj X),(27,.int .i64 0),(3,pt g3),(6,pt g6),(9,.func (.func 130) #[] #[pt g4,pt g8])] [⟨gR,95,vs++[z3]⟩,⟨g8,139,[.slice (some ⟨gR,0,none⟩) vs.length (vs.length+1)]⟩,⟨g6,24,zc X⟩,⟨g4,9,[.string s]⟩,⟨g3,24,zc m⟩] (bt 10 511) 1:=by
   intro z3;refine (hA _ _ _ _).2 (WA.step [9] (.cons ?_ .nil))
   ·refine Tw ?_;exact WA.go hA (hS1023 z3)
  have hS255:∀ z3,A [(20,.func (.func 130) #[] #[pt g4,pt g8]),(21,zj x1),(22,.func (.func 130) #[] #[pt g4,pt g8]),(23,zj x0),(24,zj m),(25,.tuple #[zj X,.int .i64 0]),(26,zj X),(27,.int .i64 0),(3,pt g3),(6,pt g6),(9,.func (.func 130) #[] #[pt g4,pt g8])] [⟨gR,95,vs++[z3]⟩,⟨g8,139,[.slice (some ⟨gR,0,none⟩) vs.length (vs.length+1)]⟩,⟨g6,24,zc 0⟩,⟨g4,9,[.string s]⟩,⟨g3,24,zc m⟩] (bt 10 255) 2:=by
   intro z3;refine (hA _ _ _ _).2 (WA.step [8] (.cons ?_ .nil))
   ·refine Tw ?_;exact WA.go hA (hS511 z3)
  have hS127:∀ z3,A [(20,.func (.func 130) #[] #[pt g4,pt g8]),(21,zj x1),(22,.func (.func 130) #[] #[pt g4,pt g8]),(23,zj x0),(24,zj m),(25,.tuple #[zj X,.int .i64 0]),(26,zj X),(3,pt g3),(6,pt g6),(9,.func (.func 130) #[] #[pt g4,pt g8])] [⟨gR,95,vs++[z3]⟩,⟨g8,139,[.slice (some ⟨gR,0,none⟩) vs.length (vs.length+1)]⟩,⟨g6,24,zc 0⟩,⟨g4,9,[.string s]⟩,⟨g3,24,zc m⟩] (bt 10 127) 3:=by
   intro z3;refine (hA _ _ _ _).2 (WA.step [7] (.cons ?_ .nil))
   ·refine Tw ?_;exact WA.go hA (hS255 z3)
  have hS191:∀ z3,A [(20,.func (.func 130) #[] #[pt g4,pt g8]),(21,zj x1),(22,.func (.func 130) #[] #[pt g4,pt g8]),(23,zj x0),(24,zj m),(25,.tuple #[zj X,.int .i64 0]),(27,.int .i64 0),(3,pt g3),(6,pt g6),(9,.func (.func 130) #[] #[pt g4,pt g8])] [⟨gR,95,vs++[z3]⟩,⟨g8,139,[.slice (some ⟨gR,0,none⟩) vs.length (vs.length+1)]⟩,⟨g6,24,zc 0⟩,⟨g4,9,[.string s]⟩,⟨g3,24,zc m⟩] (bt 10 191) 3:=by
   intro z3;refine (hA _ _ _ _).2 (WA.step [6] (.cons ?_ .nil))
   ·refine Tw ?_;exact WA.go hA (hS255 z3)
  have hS63:∀ z3,A [(20,.func (.func 130) #[] #[pt g4,pt g8]),(21,zj x1),(22,.func (.func 130) #[] #[pt g4,pt g8]),(23,zj x0),(24,zj m),(25,.tuple #[zj X,.int .i64 0]),(3,pt g3),(6,pt g6),(9,.func (.func 130) #[] #[pt g4,pt g8])] [⟨gR,95,vs++[z3]⟩,⟨g8,139,[.slice (some ⟨gR,0,none⟩) vs.length (vs.length+1)]⟩,⟨g6,24,zc 0⟩,⟨g4,9,[.string s]⟩,⟨g3,24,zc m⟩] (bt 10 63) 4:=by
   intro z3;refine (hA _ _ _ _).2 (WA.step [6,7] (.cons ?_ (.cons ?_ .nil)))
   ·refine Tw ?_;exact WA.go hA (hS127 z3)
   ·refine Tw ?_;exact WA.go hA (hS191 z3)
  have hS31:∀ z3,A [(20,.func (.func 130) #[] #[pt g4,pt g8]),(21,zj x1),(22,.func (.func 130) #[] #[pt g4,pt g8]),(23,zj x0),(24,zj m),(3,pt g3),(6,pt g6),(9,.func (.func 130) #[] #[pt g4,pt g8])] [⟨gR,95,vs++[z3]⟩,⟨g8,139,[.slice (some ⟨gR,0,none⟩) vs.length (vs.length+1)]⟩,⟨g6,24,zc 0⟩,⟨g4,9,[.string s]⟩,⟨g3,24,zc m⟩] (bt 10 31) 5:=by
   intro z3;refine (hA _ _ _ _).2 (WA.step [5] (.cons ?_ .nil))
   ·refine WO.acall (hc:=hW) (k:=?_);exact WA.go hA (hS63 z3)
  have hS15:∀ z3,A [(20,.func (.func 130) #[] #[pt g4,pt g8]),(21,zj x1),(22,.func (.func 130) #[] #[pt g4,pt g8]),(23,zj x0),(3,pt g3),(6,pt g6),(9,.func (.func 130) #[] #[pt g4,pt g8])] [⟨gR,95,vs++[z3]⟩,⟨g8,139,[.slice (some ⟨gR,0,none⟩) vs.length (vs.length+1)]⟩,⟨g6,24,zc 0⟩,⟨g4,9,[.string s]⟩,⟨g3,24,zc m⟩] (bt 10 15) 6:=by
   intro z3;refine (hA _ _ _ _).2 (WA.step [4] (.cons ?_ .nil))
   ·refine Tw ?_;exact WA.go hA (hS31 z3)
  have hS23:∀ z1,A [(20,.func (.func 130) #[] #[pt g4,pt g8]),(21,zj x1),(22,.func (.func 130) #[] #[pt g4,pt g8]),(24,zj m),(3,pt g3),(6,pt g6),(9,.func (.func 130) #[] #[pt g4,pt g8])] [⟨gR,95,vs++[z1]⟩,⟨g8,139,[.slice (some ⟨gR,0,none⟩) vs.length (vs.length+1)]⟩,⟨g6,24,zc 0⟩,⟨g4,9,[.string s]⟩,⟨g3,24,zc m⟩] (bt 10 23) 6:=by
   intro z1;refine (hA _ _ _ _).2 (WA.step [3] (.cons ?_ .nil))
   ·(refine WO.callI (fs:=[]) (ks:=[pt g4,pt g8]) hF0 rfl rfl rfl Pk.a ⟨_,rfl⟩ (fun w1 hm=>⟨Hs.sg hm.mr,Hs.sg hm.mr,hw2.partsB.mod hm.mod (by simp)⟩) (by decide) (fun cs' hC'=>?_) rfl rfl;obtain⟨z3,rfl⟩:=hC');exact WA.go hA (hS31 z3)
  have hS7:∀ z1,A [(20,.func (.func 130) #[] #[pt g4,pt g8]),(21,zj x1),(22,.func (.func 130) #[] #[pt g4,pt g8]),(3,pt g3),(6,pt g6),(9,.func (.func 130) #[] #[pt g4,pt g8])] [⟨gR,95,vs++[z1]⟩,⟨g8,139,[.slice (some ⟨gR,0,none⟩) vs.length (vs.length+1)]⟩,⟨g6,24,zc 0⟩,⟨g4,9,[.string s]⟩,⟨g3,24,zc m⟩] (bt 10 7) 7:=by
   intro z1;refine (hA _ _ _ _).2 (WA.step [3,4] (.cons ?_ (.cons ?_ .nil)))
   ·(refine WO.callI (fs:=[]) (ks:=[pt g4,pt g8]) hF0 rfl rfl rfl Pk.a ⟨_,rfl⟩ (fun w1 hm=>⟨Hs.sg hm.mr,Hs.sg hm.mr,hw2.partsB.mod hm.mod (by simp)⟩) (by decide) (fun cs' hC'=>?_) rfl rfl;obtain⟨z3,rfl⟩:=hC');exact WA.go hA (hS15 z3)
   ·refine Tw ?_;exact WA.go hA (hS23 z1)
  have hS19:∀ z1,A [(20,.func (.func 130) #[] #[pt g4,pt g8]),(21,zj x1),(24,zj m),(3,pt g3),(6,pt g6),(9,.func (.func 130) #[] #[pt g4,pt g8])] [⟨gR,95,vs++[z1]⟩,⟨g8,139,[.slice (some ⟨gR,0,none⟩) vs.length (vs.length+1)]⟩,⟨g6,24,zc 0⟩,⟨g4,9,[.string s]⟩,⟨g3,24,zc m⟩] (bt 10 19) 7:=by
   intro z1;refine (hA _ _ _ _).2 (WA.step [2] (.cons ?_ .nil))
   ·refine Tw ?_;exact WA.go hA (hS23 z1)
  have hS21:A [(20,.func (.func 130) #[] #[pt g4,pt g8]),(22,.func (.func 130) #[] #[pt g4,pt g8]),(24,zj m),(3,pt g3),(6,pt g6),(9,.func (.func 130) #[] #[pt g4,pt g8])] [⟨gR,95,vs++[.slice none 0 0]⟩,⟨g8,139,[.slice (some ⟨gR,0,none⟩) vs.length (vs.length+1)]⟩,⟨g6,24,zc 0⟩,⟨g4,9,[.string s]⟩,⟨g3,24,zc m⟩] (bt 10 21) 7:=by
   refine (hA _ _ _ _).2 (WA.step [1] (.cons ?_ .nil))
   ·(refine WO.callI (fs:=[]) (ks:=[pt g4,pt g8]) hF1 rfl rfl rfl Pk.a ⟨_,rfl⟩ (fun w1 hm=>⟨Hs.sg hm.mr,Hs.sg hm.mr,hw2.partsB.mod hm.mod (by simp)⟩) (by decide) (fun cs' hC'=>?_) rfl rfl;obtain⟨z1,rfl⟩:=hC');exact WA.go hA (hS23 z1)
  have hS3:∀ z1,A [(20,.func (.func 130) #[] #[pt g4,pt g8]),(21,zj x1),(3,pt g3),(6,pt g6),(9,.func (.func 130) #[] #[pt g4,pt g8])] [⟨gR,95,vs++[z1]⟩,⟨g8,139,[.slice (some ⟨gR,0,none⟩) vs.length (vs.length+1)]⟩,⟨g6,24,zc 0⟩,⟨g4,9,[.string s]⟩,⟨g3,24,zc m⟩] (bt 10 3) 8:=by
   intro z1;refine (hA _ _ _ _).2 (WA.step [2,4] (.cons ?_ (.cons ?_ .nil)))
   ·refine Tw ?_;exact WA.go hA (hS7 z1)
   ·refine Tw ?_;exact WA.go hA (hS19 z1)
  have hS5:A [(20,.func (.func 130) #[] #[pt g4,pt g8]),(22,.func (.func 130) #[] #[pt g4,pt g8]),(3,pt g3),(6,pt g6),(9,.func (.func 130) #[] #[pt g4,pt g8])] [⟨gR,95,vs++[.slice none 0 0]⟩,⟨g8,139,[.slice (some ⟨gR,0,none⟩) vs.length (vs.length+1)]⟩,⟨g6,24,zc 0⟩,⟨g4,9,[.string s]⟩,⟨g3,24,zc m⟩] (bt 10 5) 8:=by
   refine (hA _ _ _ _).2 (WA.step [1,4] (.cons ?_ (.cons ?_ .nil)))
   ·(refine WO.callI (fs:=[]) (ks:=[pt g4,pt g8]) hF1 rfl rfl rfl Pk.a ⟨_,rfl⟩ (fun w1 hm=>⟨Hs.sg hm.mr,Hs.sg hm.mr,hw2.partsB.mod hm.mod (by simp)⟩) (by decide) (fun cs' hC'=>?_) rfl rfl;obtain⟨z1,rfl⟩:=hC');exact WA.go hA (hS7 z1)
   ·refine Tw ?_;exact WA.go hA (hS21)
  have hS17:A [(20,.func (.func 130) #[] #[pt g4,pt g8]),(24,zj m),(3,pt g3),(6,pt g6),(9,.func (.func 130) #[] #[pt g4,pt g8])] [⟨gR,95,vs++[.slice none 0 0]⟩,⟨g8,139,[.slice (some ⟨gR,0,none⟩) vs.length (vs.length+1)]⟩,⟨g6,24,zc 0⟩,⟨g4,9,[.string s]⟩,⟨g3,24,zc m⟩] (bt 10 17) 8:=by
   refine (hA _ _ _ _).2 (WA.step [1,2] (.cons ?_ (.cons ?_ .nil)))
   ·(refine WO.callI (fs:=[]) (ks:=[pt g4,pt g8]) hF1 rfl rfl rfl Pk.a ⟨_,rfl⟩ (fun w1 hm=>⟨Hs.sg hm.mr,Hs.sg hm.mr,hw2.partsB.mod hm.mod (by simp)⟩) (by decide) (fun cs' hC'=>?_) rfl rfl;obtain⟨z1,rfl⟩:=hC');exact WA.go hA (hS19 z1)
   ·refine Tw ?_;exact WA.go hA (hS21)
  have hS20:A [(22,.func (.func 130) #[] #[pt g4,pt g8]),(24,zj m),(3,pt g3),(6,pt g6),(9,.func (.func 130) #[] #[pt g4,pt g8])] [⟨gR,95,vs++[.slice none 0 0]⟩,⟨g8,139,[.slice (some ⟨gR,0,none⟩) vs.length (vs.length+1)]⟩,⟨g6,24,zc 0⟩,⟨g4,9,[.string s]⟩,⟨g3,24,zc m⟩] (bt 10 20) 8:=by
   refine (hA _ _ _ _).2 (WA.step [0] (.cons ?_ .nil))
   ·refine Tw ?_;exact WA.go hA (hS21)
  have hS1:A [(20,.func (.func 130) #[] #[pt g4,pt g8]),(3,pt g3),(6,pt g6),(9,.func (.func 130) #[] #[pt g4,pt g8])] [⟨gR,95,vs++[.slice none 0 0]⟩,⟨g8,139,[.slice (some ⟨gR,0,none⟩) vs.length (vs.length+1)]⟩,⟨g6,24,zc 0⟩,⟨g4,9,[.string s]⟩,⟨g3,24,zc m⟩] (bt 10 1) 9:=by
   refine (hA _ _ _ _).2 (WA.step [1,2,4] (.cons ?_ (.cons ?_ (.cons ?_ .nil))))
   ·(refine WO.callI (fs:=[]) (ks:=[pt g4,pt g8]) hF1 rfl rfl rfl Pk.a ⟨_,rfl⟩ (fun w1 hm=>⟨Hs.sg hm.mr,Hs.sg hm.mr,hw2.partsB.mod hm.mod (by simp)⟩) (by decide) (fun cs' hC'=>?_) rfl rfl;obtain⟨z1,rfl⟩:=hC');exact WA.go hA (hS3 z1)
   ·refine Tw ?_;exact WA.go hA (hS5)
   ·refine Tw ?_;exact WA.go hA (hS17)
  have hS4:A [(22,.func (.func 130) #[] #[pt g4,pt g8]),(3,pt g3),(6,pt g6),(9,.func (.func 130) #[] #[pt g4,pt g8])] [⟨gR,95,vs++[.slice none 0 0]⟩,⟨g8,139,[.slice (some ⟨gR,0,none⟩) vs.length (vs.length+1)]⟩,⟨g6,24,zc 0⟩,⟨g4,9,[.string s]⟩,⟨g3,24,zc m⟩] (bt 10 4) 9:=by
   refine (hA _ _ _ _).2 (WA.step [0,4] (.cons ?_ (.cons ?_ .nil)))
   ·refine Tw ?_;exact WA.go hA (hS5)
   ·refine Tw ?_;exact WA.go hA (hS20)
  have hS16:A [(24,zj m),(3,pt g3),(6,pt g6),(9,.func (.func 130) #[] #[pt g4,pt g8])] [⟨gR,95,vs++[.slice none 0 0]⟩,⟨g8,139,[.slice (some ⟨gR,0,none⟩) vs.length (vs.length+1)]⟩,⟨g6,24,zc 0⟩,⟨g4,9,[.string s]⟩,⟨g3,24,zc m⟩] (bt 10 16) 9:=by
   refine (hA _ _ _ _).2 (WA.step [0,2] (.cons ?_ (.cons ?_ .nil)))
   ·refine Tw ?_;exact WA.go hA (hS17)
   ·refine Tw ?_;exact WA.go hA (hS20)
  have hS0:A [(3,pt g3),(6,pt g6),(9,.func (.func 130) #[] #[pt g4,pt g8])] [⟨gR,95,vs++[.slice none 0 0]⟩,⟨g8,139,[.slice (some ⟨gR,0,none⟩) vs.length (vs.length+1)]⟩,⟨g6,24,zc 0⟩,⟨g4,9,[.string s]⟩,⟨g3,24,zc m⟩] (bt 10 0) 10:=by
   refine (hA _ _ _ _).2 (WA.step [0,2,4] (.cons ?_ (.cons ?_ (.cons ?_ .nil))))
   ·refine Tw ?_;exact WA.go hA (hS1)
   ·refine Tw ?_;exact WA.go hA (hS4)
   ·refine Tw ?_;exact WA.go hA (hS16)
  exact (hA _ _ _ _).2 (WA.less _ _ ((hA _ _ _ _).1 hS0))
 intro z3;refine (hA _ _ _ _).2 (WA.done ?_)
 repeat (first|refine Tw ?_|(refine Tm ?_;intro _)|exact Tz)
end Sx
end
end Go.Proofs.YteibfbjpkjkejaaGreatDoor
