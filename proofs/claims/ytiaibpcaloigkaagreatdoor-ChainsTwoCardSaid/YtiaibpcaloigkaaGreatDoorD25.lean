/- Part 25 of the proof. -/
import Derived.Test.YtiaibpcaloigkaaGreatDoorD19
import Derived.Test.YtiaibpcaloigkaaGreatDoorD22
set_option linter.unusedSimpArgs false
set_option linter.unusedVariables false
set_option maxHeartbeats 8000000
namespace Go.Proofs.YtiaibpcaloigkaaGreatDoor
section
open Go Go.RowKit Go.BigFrame
namespace Sx
attribute [local irreducible] DQ WC WO WT WX wd
def oM (m:Nat) (s:LN) (Ps:List (List Nat)):Nat:=(beV (hOf s (Ps++[[0]]))*ze+beV (hOf s (Ps++[[1]])))%m
theorem aer (s:LN) (Ps:List (List Nat)):beV (hOf s Ps)<ze:=by
 have:=eA (vP s Ps);rw[zO] at this;exact Nat.lt_of_lt_of_eq this Dt
theorem eQ (vs:LV) (z:Value):over (mkz (vs.length+1) [z]) 0 vs=vs++[z]:=by
 rw[ra];unfold over;rw[List.take_zero,List.nil_append,Nat.zero_add,List.drop_replicate,show vs.length+1 - vs.length=1 by omega];rfl
theorem zV.one {vs:LV} {Ps:List (List Nat)} {w:World} (h:zV vs Ps w):vs.all Value.oneCell'=true:=by
 rw[List.all_eq_true];intro v hv;obtain⟨i,hi,rfl⟩:=List.getElem_of_mem hv;have h1:=h.1;obtain⟨p,c,e,_⟩:=h.2 i _ _ (List.getElem?_eq_getElem hi) (List.getElem?_eq_getElem (show i<Ps.length by omega));rw[e];rfl
theorem sL (m:Nat) (s:ByteArray) (vs:LV) (Ps:List (List Nat)) (B O C:Nat) (hm:m<ze) (h0:0<m) (hP:∀ X∈Ps,∀ x∈X,x<256) (hb:(yz (zN s) Ps).length≤1099511627776) (hs:s.size≤274877906944) :
  Fn Tryz.prog 174 [zi m,.string s,.slice (some ⟨B,O,none⟩) vs.length C] (fun w=>Seg w B O vs∧zV vs Ps w) (Is (.tuple #[zi (oM m (zN s) Ps),.int .i64 0])):=by
 refine Fn.enter Tryz.func174 rfl rfl rfl ?_;intro w hw;obtain⟨hw1,hw2⟩:=hw;have hN:=hw2.1;have hNs:Ps.length*4≤(yG Ps).length:=by
  clear hb hw2 hN hP
  induction Ps with
  | nil=>simp
  | cons X Ps ih=>simp only[yG,List.flatMap_cons,List.length_append,List.length_cons,zk] at ih ⊢;omega
 have hNb:vs.length<1099511627776:=by unfold yz at hb;rw[List.length_append] at hb;omega
 have hv1:=hw2.one;have hN1:IntKind.i64.wrap (((vs.length:Nat):Int)+1)=((vs.length+1:Nat):Int):=zl Om Om Om
 repeat (first|refine WO.does (zj rfl rfl hN1) ?_|refine Tj ?_|intro _|(refine WO.makes (yf (l:=vs.length) (c:=vs.length+1) rfl rfl Om Om Om) ?_;intro gR)|refine WO.both (rm (st:=129) rfl rfl rfl (Rds.seg (n:=vs.length) hw1 (Nat.le_refl _) Sm (m:=vs.length) (xs:=vs) (by unfold cut;rw[Nat.sub_self,List.drop_zero,List.take_length])) (by rw[Nat.mul_one]) (m:=vs.length) (Nat.min_self _) (ys:=vs) (by rw[Nat.mul_one,List.take_length]) hv1 (by repeat (first|exact Rp.here|apply Rp.there)) (eQ vs _) (by rw[zT];simp) Dt) ?_|refine Tc ?_|exact Tz)
 rename_i g3 g4 g6 g8;refine WC.ndp' (fun hnd=>?_);have h4:g4≠gR:=by simp at hnd;omega
 have h8:g8≠gR:=by simp at hnd;omega
 clear hnd;refine WC.mine (fun hmn=>?_);have hB:w.heap.size≤gR:=(hmn _ (List.mem_cons_of_mem _ (List.mem_cons_self ..))).resolve_right Sm;clear hmn;have hF:=fun k (hk:k<256)=>aeD s vs Ps gR g4 g8 w.heap.size k hP hk Om hs h4 h8 hB Om;have hF1:=hF 1 Dt;have hF0:=hF 0 Dt;have hW:=adP _ _ m (aer (zN s) (Ps++[[1]])) (aer (zN s) (Ps++[[0]])) hm h0;have hres:oM m (zN s) Ps=(beV (hOf (zN s) (Ps++[[0]]))*ze+beV (hOf (zN s) (Ps++[[1]])))%m:=rfl;rw[hres];clear hres hF;generalize (beV (hOf (zN s) (Ps++[[0]]))*ze+beV (hOf (zN s) (Ps++[[1]])))%m=X at *;generalize beV (hOf (zN s) (Ps++[[0]]))=x0 at *;generalize beV (hOf (zN s) (Ps++[[1]]))=x1 at *;refine WC.mainA [1,3,5,6,7,8,9] [(0,.func (.func 216) #[] #[pt g4,pt g8]),(2,.func (.func 216) #[] #[pt g4,pt g8]),(4,zi m)] Dt (fun A hA=>?_);refine WT.given [(3,pt g3),(6,pt g6),(9,.func (.func 216) #[] #[pt g4,pt g8])] [⟨g3,24,zc m⟩] Kr (Tlv.a (Tlv.a (Tlv.a (Tlv.nil)))) (fun hc hT=>?_)
 suffices hS1002:∀ z3,A [9,8,7,6,5,3,1] [(21,zi x1),(23,zi x0),(25,.tuple #[zi X,.int .i64 0]),(26,zi X),(27,.int .i64 0),(7,.int .i64 0),(3,pt g3),(6,pt g6),(9,.func (.func 216) #[] #[pt g4,pt g8])] [⟨gR,126,vs++[z3]⟩,⟨g8,129,[AQ gR vs.length (vs.length+1)]⟩,⟨g6,24,zc X⟩,⟨g4,9,[.string s]⟩,⟨g3,24,zc m⟩] by
  have hS490:∀ z3,A [8,7,6,5,3,1] [(21,zi x1),(23,zi x0),(25,.tuple #[zi X,.int .i64 0]),(26,zi X),(27,.int .i64 0),(3,pt g3),(6,pt g6),(9,.func (.func 216) #[] #[pt g4,pt g8])] [⟨gR,126,vs++[z3]⟩,⟨g8,129,[AQ gR vs.length (vs.length+1)]⟩,⟨g6,24,zc X⟩,⟨g4,9,[.string s]⟩,⟨g3,24,zc m⟩]:=by
   intro z3;refine (hA _ _ _).2 (WT.step [9] Dt hc hT ⟨⟨_,rfl,?_⟩,trivial⟩)
   ·refine Tw ?_;exact WT.go [(7,.int .i64 0)] hA (hS1002 z3)
  have hS234:∀ z3,A [7,6,5,3,1] [(21,zi x1),(23,zi x0),(25,.tuple #[zi X,.int .i64 0]),(26,zi X),(27,.int .i64 0),(3,pt g3),(6,pt g6),(9,.func (.func 216) #[] #[pt g4,pt g8])] [⟨gR,126,vs++[z3]⟩,⟨g8,129,[AQ gR vs.length (vs.length+1)]⟩,⟨g6,24,zc 0⟩,⟨g4,9,[.string s]⟩,⟨g3,24,zc m⟩]:=by
   intro z3;refine (hA _ _ _).2 (WT.step [8] Dt hc hT ⟨⟨_,rfl,?_⟩,trivial⟩)
   ·refine Tw ?_;exact WT.go [] hA (hS490 z3)
  have hS106:∀ z3,A [6,5,3,1] [(21,zi x1),(23,zi x0),(25,.tuple #[zi X,.int .i64 0]),(26,zi X),(3,pt g3),(6,pt g6),(9,.func (.func 216) #[] #[pt g4,pt g8])] [⟨gR,126,vs++[z3]⟩,⟨g8,129,[AQ gR vs.length (vs.length+1)]⟩,⟨g6,24,zc 0⟩,⟨g4,9,[.string s]⟩,⟨g3,24,zc m⟩]:=by
   intro z3;refine (hA _ _ _).2 (WT.step [7] Dt hc hT ⟨⟨_,rfl,?_⟩,trivial⟩)
   ·refine Tw ?_;exact WT.go [(27,.int .i64 0)] hA (hS234 z3)
  have hS170:∀ z3,A [7,5,3,1] [(21,zi x1),(23,zi x0),(25,.tuple #[zi X,.int .i64 0]),(27,.int .i64 0),(3,pt g3),(6,pt g6),(9,.func (.func 216) #[] #[pt g4,pt g8])] [⟨gR,126,vs++[z3]⟩,⟨g8,129,[AQ gR vs.length (vs.length+1)]⟩,⟨g6,24,zc 0⟩,⟨g4,9,[.string s]⟩,⟨g3,24,zc m⟩]:=by
   intro z3;refine (hA _ _ _).2 (WT.step [6] Dt hc hT ⟨⟨_,rfl,?_⟩,trivial⟩)
   ·refine Tw ?_;exact WT.go [(26,zi X)] hA (hS234 z3)
  have hS42:∀ z3,A [5,3,1] [(21,zi x1),(23,zi x0),(25,.tuple #[zi X,.int .i64 0]),(3,pt g3),(6,pt g6),(9,.func (.func 216) #[] #[pt g4,pt g8])] [⟨gR,126,vs++[z3]⟩,⟨g8,129,[AQ gR vs.length (vs.length+1)]⟩,⟨g6,24,zc 0⟩,⟨g4,9,[.string s]⟩,⟨g3,24,zc m⟩]:=by
   intro z3;refine (hA _ _ _).2 (WT.step [6,7] Dt hc hT ⟨⟨_,rfl,?_⟩,⟨_,rfl,?_⟩,trivial⟩)
   ·refine Tw ?_;exact WT.go [(26,zi X)] hA (hS106 z3)
   ·refine Tw ?_;exact WT.go [(27,.int .i64 0)] hA (hS170 z3)
  have hS10:∀ z3,A [3,1] [(21,zi x1),(23,zi x0),(3,pt g3),(6,pt g6),(9,.func (.func 216) #[] #[pt g4,pt g8])] [⟨gR,126,vs++[z3]⟩,⟨g8,129,[AQ gR vs.length (vs.length+1)]⟩,⟨g6,24,zc 0⟩,⟨g4,9,[.string s]⟩,⟨g3,24,zc m⟩]:=by
   intro z3;refine (hA _ _ _).2 (WT.step [5] Dt hc hT ⟨⟨_,rfl,?_⟩,trivial⟩)
   ·refine WO.acall (hc:=hW) (k:=?_);exact WT.go [(25,.tuple #[zi X,.int .i64 0])] hA (hS42 z3)
  have hS2:∀ z1,A [1] [(21,zi x1),(3,pt g3),(6,pt g6),(9,.func (.func 216) #[] #[pt g4,pt g8])] [⟨gR,126,vs++[z1]⟩,⟨g8,129,[AQ gR vs.length (vs.length+1)]⟩,⟨g6,24,zc 0⟩,⟨g4,9,[.string s]⟩,⟨g3,24,zc m⟩]:=by
   intro z1;refine (hA _ _ _).2 (WT.step [3] Dt hc hT ⟨⟨_,rfl,?_⟩,trivial⟩)
   ·(refine WO.callI (fs:=[]) (ks:=[pt g4,pt g8]) hF0 rfl rfl rfl Pk.a ⟨_,rfl⟩ (fun w1 hm=>⟨Hs.sg hm.mr,Hs.sg hm.mr,hw2.partsB.mod hm.mod Sm⟩) Dt (fun cs' hC'=>?_) rfl rfl;obtain⟨z3,rfl⟩:=hC');exact WT.go [(23,zi x0)] hA (hS10 z3)
  have hS0:A [] [(3,pt g3),(6,pt g6),(9,.func (.func 216) #[] #[pt g4,pt g8])] [⟨gR,126,vs++[.slice none 0 0]⟩,⟨g8,129,[AQ gR vs.length (vs.length+1)]⟩,⟨g6,24,zc 0⟩,⟨g4,9,[.string s]⟩,⟨g3,24,zc m⟩]:=by
   refine (hA _ _ _).2 (WT.step [1] Dt hc hT ⟨⟨_,rfl,?_⟩,trivial⟩)
   ·(refine WO.callI (fs:=[]) (ks:=[pt g4,pt g8]) hF1 rfl rfl rfl Pk.a ⟨_,rfl⟩ (fun w1 hm=>⟨Hs.sg hm.mr,Hs.sg hm.mr,hw2.partsB.mod hm.mod Sm⟩) Dt (fun cs' hC'=>?_) rfl rfl;obtain⟨z1,rfl⟩:=hC');exact WT.go [(21,zi x1)] hA (hS2 z1)
  exact WT.less ((hA _ _ _).1 hS0) Dt Kle.a (by repeat (first|exact Lle.nil|exact Lle.same|refine Lle.c ?_))
 intro z3;refine (hA _ _ _).2 (WT.fin [1,3,5,6,7,8,9] 6 hc rfl Kr ?_);clear hc hT hA
 repeat (first|refine Tk ?_|intro _|exact Tz)
end Sx
end
end Go.Proofs.YtiaibpcaloigkaaGreatDoor
