/- Part 23 of the proof. -/
import Derived.Test.YtiiefkchpicncaaGreatDoorB18
import Derived.Test.YtiiefkchpicncaaGreatDoorB22
set_option linter.unusedSimpArgs false
set_option linter.unusedVariables false
set_option maxHeartbeats 8000000
namespace Go.Proofs.YtiiefkchpicncaaGreatDoor
section
open Go Go.RowKit Go.BigFrame
namespace Sx
attribute [local irreducible] DQ WC WO WT WX
def RdB (v:Value) (X:List Nat) (B:Nat) (w:World):Prop :=
 ∃ p c,v=.slice p X.length c∧X.length≤c∧c<9223372036854775808∧((p=none∧X=[])∨∃ b o,p=some ⟨b,o,none⟩∧b<B∧Seg w b o (byC X))
theorem RdB.mod {v:Value} {X:List Nat} {B:Nat} {w w' : World} {gs:List Nat} (h:RdB v X B w) (hm:Mod gs w w') (hg:∀ g∈gs,B≤g):RdB v X B w':=by
 obtain⟨p,c,rfl,h1,h2,h3⟩:=h;refine⟨p,c,rfl,h1,h2,h3.imp id (fun ⟨b,o,e,hb,hs⟩=>⟨b,o,e,hb,hs.mod hm (fun hbg=>by have:=hg b hbg;omega)⟩)⟩
theorem RdB.rdP {v:Value} {X:List Nat} {B:Nat} {w:World} (h:RdB v X B w) (hB:B≤w.heap.size):RdP v X w:=by
 obtain⟨p,c,rfl,h1,h2,h3⟩:=h;exact⟨p,c,rfl,h1,h2,h3.imp id (fun ⟨b,o,e,hb,hs⟩=>⟨b,o,e,by omega,hs⟩)⟩
def rX (vs:List Value) (Ps:List (List Nat)) (B:Nat) (w:World):Prop:=vs.length=Ps.length∧∀ (i:Nat) (v:Value) (X:List Nat),vs[i]?=some v→Ps[i]?=some X→RdB v X B w
theorem rX.mod {vs:List Value} {Ps:List (List Nat)} {B:Nat} {w w' : World} {gs:List Nat} (h:rX vs Ps B w) (hm:Mod gs w w') (hg:∀ g∈gs,B≤g):rX vs Ps B w':=⟨h.1,fun i v X h1 h2=>(h.2 i v X h1 h2).mod hm hg⟩
theorem rX.parts {vs:List Value} {Ps:List (List Nat)} {B:Nat} {w:World} (h:rX vs Ps B w) (hB:B≤w.heap.size):yb vs Ps w:=⟨h.1,fun i v X h1 h2=>(h.2 i v X h1 h2).rdP hB⟩
theorem yb.partsB {vs:List Value} {Ps:List (List Nat)} {w:World} (h:yb vs Ps w):rX vs Ps w.heap.size w:=h
theorem afe (s:List Nat) (Ps:List (List Nat)):(byC (hOf s Ps)).length=32:=by
 rw[zi];unfold hOf Sha.sum;rw[uF,uf rfl]
theorem vD (s:List Nat) (Ps:List (List Nat)):(hOf s Ps).length=32:=by
 unfold hOf Sha.sum;rw[uF,uf rfl]
theorem afm (s:List Nat):∀ x∈Sha.outs s,x<256:=by
 intro x hx;unfold Sha.outs at hx;obtain⟨y,_,hy⟩:=List.mem_flatMap.1 hx;simp only[List.mem_cons,List.not_mem_nil,or_false] at hy
 rcases hy with rfl|rfl|rfl|rfl<;>exact Nat.mod_lt _ Om
theorem qu (s:List Nat) (Ps:List (List Nat)):∀ x∈hOf s Ps,x<256:=afm _
theorem mW (vs:List Value) (z y:Value):over (vs++[z]) vs.length [y]=vs++[y]:=by
 unfold over;rw[List.take_left,List.drop_of_length_le (by simp)];simp
def aie (vs:List Value) (cs:List Value):Prop:=∃ z,cs=vs++[z]
theorem agy (s:ByteArray) (vs:List Value) (Ps:List (List Nat)) (gR g4 g8 B k:Nat) (hP:∀ X∈Ps,∀ x∈X,x<256) (hk:k<256) (hb:(yV (ya s) Ps).length≤1152921504606830000) (hs:s.size≤274877906944) (h4:g4≠gR) (h8:g8≠gR) (hB:B≤gR) (hN:vs.length<1099511627776) :
  FnI Tryz.prog 166 [.int .u8 (k:Int),pt g4,pt g8] gR 105 (aie vs)
   (fun w=>Seg w g4 0 [.string s]∧Seg w g8 0 [.slice (some ⟨gR,0,none⟩) vs.length (vs.length+1)]∧rX vs Ps B w) (zk (beV (hOf (ya s) (Ps++[[k]])))):=by
 refine FnI.enter Tryz.func166 rfl rfl rfl ?_;rintro w cs ⟨z,rfl⟩ ⟨hw1,hw2,hw3⟩;have hbl:(yV (ya s) (Ps++[[k]])).length≤1152921504606840000:=by
  unfold yV tj at hb ⊢;rw[ol];simp only[List.length_append,zn,List.length_cons,List.length_nil] at hb ⊢;omega
 have hH:=fun g3=>abC s (vs++[.slice (some ⟨g3,0,none⟩) 1 1]) (Ps++[[k]]) gR 0 (vs.length+1) (fun X hX x hx=>by
  rcases List.mem_append.1 hX with hX|hX
  ·exact hP X hX x hx
  ·simp at hX;subst hX;simp at hx;omega) hbl hs
 simp only[List.length_append,List.length_cons,List.length_nil,Nat.zero_add] at hH;have hout:=afe (ya s) (Ps++[[k]]);have houtl:=vD (ya s) (Ps++[[k]]);have hlt:=qu (ya s) (Ps++[[k]]);have h4' : g4 ∉ [gR]:=by simpa using h4
 have h8' : g8 ∉ [gR]:=by simpa using h8
 generalize hO:hOf (ya s) (Ps++[[k]])=O at *
 repeat (first|refine Tw ?_|(refine Tm ?_;intro _)|exact Tz)
 rename_i gO;refine WC.mainA [3,4,5,6,7,8] [(0,.string s),(1,.slice (some ⟨gR,0,none⟩) vs.length (vs.length+1)),(2,.int .u8 (k:Int))] (by decide) (fun A hA=>?_);refine WT.given [(0,.int .u8 (k:Int)),(1,pt g4),(2,pt g8),(4,pt gO)] [] (by kernel_rfl) (Tlv.a (Tlv.a (Tlv.a (Tlv.nil)) (h:=by refine Qux.does ?_;exact zm (hs:=hw2) (hb:=h8'))) (h:=by refine Qux.does ?_;exact zm (hs:=hw1) (hb:=h4'))) (fun hc hT=>?_)
 suffices hS504:∀ q3 q4 q7,A [8,7,6,5,4,3] [(11,.slice (some ⟨q3,0,none⟩) 1 1),(12,.slice (some ⟨q4,0,none⟩) 1 1),(13,.slice (some ⟨gR,0,none⟩) (vs.length+1) (vs.length+1)),(14,.agg (byC O).toArray),(5,pt q7),(0,.int .u8 (k:Int)),(1,pt g4),(2,pt g8),(4,pt gO)] [⟨q3,5,[.int .u8 (k:Int)]⟩,⟨q4,105,[.slice (some ⟨q3,0,none⟩) 1 1]⟩,⟨q7,53,byC O⟩,⟨gR,105,vs++[.slice (some ⟨q3,0,none⟩) 1 1]⟩,⟨gO,24,[.int .u64 0,.int .u64 0,.int .u64 0,.int .u64 0]⟩] by
  have hS248:∀ q3 q4 q7,A [7,6,5,4,3] [(11,.slice (some ⟨q3,0,none⟩) 1 1),(12,.slice (some ⟨q4,0,none⟩) 1 1),(13,.slice (some ⟨gR,0,none⟩) (vs.length+1) (vs.length+1)),(14,.agg (byC O).toArray),(5,pt q7),(0,.int .u8 (k:Int)),(1,pt g4),(2,pt g8),(4,pt gO)] [⟨q3,5,[.int .u8 (k:Int)]⟩,⟨q4,105,[.slice (some ⟨q3,0,none⟩) 1 1]⟩,⟨q7,53,List.replicate 32 (.int .u8 0)⟩,⟨gR,105,vs++[.slice (some ⟨q3,0,none⟩) 1 1]⟩,⟨gO,24,[.int .u64 0,.int .u64 0,.int .u64 0,.int .u64 0]⟩]:=by
   intro q3 q4 q7;refine (hA _ _ _).2 (WT.step [8] (by decide) hc hT ⟨⟨_,rfl,?_⟩,trivial⟩)
   ·refine WO.stores (zG (vs:=byC O) (cs':=byC O) (hl:=hout) (h1:=ve _) (hc:=y4 (by rw[hout];rfl)) (hle:=by rw[hout];rfl)) ?_;exact WT.go [] hA (hS504 q3 q4 q7)
  have hS120:∀ q3 q4,A [6,5,4,3] [(11,.slice (some ⟨q3,0,none⟩) 1 1),(12,.slice (some ⟨q4,0,none⟩) 1 1),(13,.slice (some ⟨gR,0,none⟩) (vs.length+1) (vs.length+1)),(14,.agg (byC O).toArray),(0,.int .u8 (k:Int)),(1,pt g4),(2,pt g8),(4,pt gO)] [⟨q3,5,[.int .u8 (k:Int)]⟩,⟨q4,105,[.slice (some ⟨q3,0,none⟩) 1 1]⟩,⟨gR,105,vs++[.slice (some ⟨q3,0,none⟩) 1 1]⟩,⟨gO,24,[.int .u64 0,.int .u64 0,.int .u64 0,.int .u64 0]⟩]:=by
   intro q3 q4;refine (hA _ _ _).2 (WT.step [7] (by decide) hc hT ⟨⟨_,rfl,?_⟩,trivial⟩)
   ·(refine WO.autoM (k:=?_);intro q7);exact WT.go [(5,pt q7)] hA (hS248 q3 q4 q7)
  have hS184:∀ q3 q4 q7,A [7,5,4,3] [(11,.slice (some ⟨q3,0,none⟩) 1 1),(12,.slice (some ⟨q4,0,none⟩) 1 1),(13,.slice (some ⟨gR,0,none⟩) (vs.length+1) (vs.length+1)),(5,pt q7),(0,.int .u8 (k:Int)),(1,pt g4),(2,pt g8),(4,pt gO)] [⟨q3,5,[.int .u8 (k:Int)]⟩,⟨q4,105,[.slice (some ⟨q3,0,none⟩) 1 1]⟩,⟨q7,53,List.replicate 32 (.int .u8 0)⟩,⟨gR,105,vs++[.slice (some ⟨q3,0,none⟩) 1 1]⟩,⟨gO,24,[.int .u64 0,.int .u64 0,.int .u64 0,.int .u64 0]⟩]:=by
   intro q3 q4 q7;refine (hA _ _ _).2 (WT.step [6] (by decide) hc hT ⟨⟨_,rfl,?_⟩,trivial⟩)
   ·refine WO.acallR (hc:=hH q3) (hR:=fun w1 hm=>⟨Hs.sg hm,yb.snoc (RdP.own0 (g:=q3) (X:=[k]) hm Hs.a (by simp) Om) ((hw3.mod hm.mod (by simpa using hB)).parts (by have:=(hm.ok ⟨gR,_,_⟩ (Hs.mem Hs.a)).lt;simp only at this;omega))⟩) (k:=?_);exact WT.go [(14,.agg (byC O).toArray)] hA (hS248 q3 q4 q7)
  have hS56:∀ q3 q4,A [5,4,3] [(11,.slice (some ⟨q3,0,none⟩) 1 1),(12,.slice (some ⟨q4,0,none⟩) 1 1),(13,.slice (some ⟨gR,0,none⟩) (vs.length+1) (vs.length+1)),(0,.int .u8 (k:Int)),(1,pt g4),(2,pt g8),(4,pt gO)] [⟨q3,5,[.int .u8 (k:Int)]⟩,⟨q4,105,[.slice (some ⟨q3,0,none⟩) 1 1]⟩,⟨gR,105,vs++[.slice (some ⟨q3,0,none⟩) 1 1]⟩,⟨gO,24,[.int .u64 0,.int .u64 0,.int .u64 0,.int .u64 0]⟩]:=by
   intro q3 q4;refine (hA _ _ _).2 (WT.step [6,7] (by decide) hc hT ⟨⟨_,rfl,?_⟩,⟨_,rfl,?_⟩,trivial⟩)
   ·refine WO.acallR (hc:=hH q3) (hR:=fun w1 hm=>⟨Hs.sg hm,yb.snoc (RdP.own0 (g:=q3) (X:=[k]) hm Hs.a (by simp) Om) ((hw3.mod hm.mod (by simpa using hB)).parts (by have:=(hm.ok ⟨gR,_,_⟩ (Hs.mem Hs.a)).lt;simp only at this;omega))⟩) (k:=?_);exact WT.go [(14,.agg (byC O).toArray)] hA (hS120 q3 q4)
   ·(refine WO.autoM (k:=?_);intro q7);exact WT.go [(5,pt q7)] hA (hS184 q3 q4 q7)
  have hS152:∀ q3 q4 q7,A [7,4,3] [(11,.slice (some ⟨q3,0,none⟩) 1 1),(12,.slice (some ⟨q4,0,none⟩) 1 1),(5,pt q7),(0,.int .u8 (k:Int)),(1,pt g4),(2,pt g8),(4,pt gO)] [⟨q3,5,[.int .u8 (k:Int)]⟩,⟨q4,105,[.slice (some ⟨q3,0,none⟩) 1 1]⟩,⟨q7,53,List.replicate 32 (.int .u8 0)⟩,⟨gR,105,vs++[z]⟩,⟨gO,24,[.int .u64 0,.int .u64 0,.int .u64 0,.int .u64 0]⟩]:=by
   intro q3 q4 q7;refine (hA _ _ _).2 (WT.step [5] (by decide) hc hT ⟨⟨_,rfl,?_⟩,trivial⟩)
   ·refine WO.both (pc (n:=1) (xs:=[.slice (some ⟨q3,0,none⟩) 1 1]) rfl rfl (Rds.own (g:=q4) (m:=1) Hs.a rfl) rfl Om rfl (by repeat (first|exact Rp.here|apply Rp.there)) (mW vs z _) (by simp) (by decide) rfl) ?_;exact WT.go [(13,.slice (some ⟨gR,0,none⟩) (vs.length+1) (vs.length+1))] hA (hS184 q3 q4 q7)
  have hS24:∀ q3 q4,A [4,3] [(11,.slice (some ⟨q3,0,none⟩) 1 1),(12,.slice (some ⟨q4,0,none⟩) 1 1),(0,.int .u8 (k:Int)),(1,pt g4),(2,pt g8),(4,pt gO)] [⟨q3,5,[.int .u8 (k:Int)]⟩,⟨q4,105,[.slice (some ⟨q3,0,none⟩) 1 1]⟩,⟨gR,105,vs++[z]⟩,⟨gO,24,[.int .u64 0,.int .u64 0,.int .u64 0,.int .u64 0]⟩]:=by
   intro q3 q4;refine (hA _ _ _).2 (WT.step [5,7] (by decide) hc hT ⟨⟨_,rfl,?_⟩,⟨_,rfl,?_⟩,trivial⟩)
   ·refine WO.both (pc (n:=1) (xs:=[.slice (some ⟨q3,0,none⟩) 1 1]) rfl rfl (Rds.own (g:=q4) (m:=1) Hs.a rfl) rfl Om rfl (by repeat (first|exact Rp.here|apply Rp.there)) (mW vs z _) (by simp) (by decide) rfl) ?_;exact WT.go [(13,.slice (some ⟨gR,0,none⟩) (vs.length+1) (vs.length+1))] hA (hS56 q3 q4)
   ·(refine WO.autoM (k:=?_);intro q7);exact WT.go [(5,pt q7)] hA (hS152 q3 q4 q7)
  have hS136:∀ q3 q7,A [7,3] [(11,.slice (some ⟨q3,0,none⟩) 1 1),(5,pt q7),(0,.int .u8 (k:Int)),(1,pt g4),(2,pt g8),(4,pt gO)] [⟨q3,5,[.int .u8 (k:Int)]⟩,⟨q7,53,List.replicate 32 (.int .u8 0)⟩,⟨gR,105,vs++[z]⟩,⟨gO,24,[.int .u64 0,.int .u64 0,.int .u64 0,.int .u64 0]⟩]:=by
   intro q3 q7;refine (hA _ _ _).2 (WT.step [4] (by decide) hc hT ⟨⟨_,rfl,?_⟩,trivial⟩)
   ·(refine WO.makes (zh (cs:=[.slice (some ⟨q3,0,none⟩) 1 1]) rfl (by decide) rfl) ?_;intro q4);exact WT.go [(12,.slice (some ⟨q4,0,none⟩) 1 1)] hA (hS152 q3 q4 q7)
  have hS8:∀ q3,A [3] [(11,.slice (some ⟨q3,0,none⟩) 1 1),(0,.int .u8 (k:Int)),(1,pt g4),(2,pt g8),(4,pt gO)] [⟨q3,5,[.int .u8 (k:Int)]⟩,⟨gR,105,vs++[z]⟩,⟨gO,24,[.int .u64 0,.int .u64 0,.int .u64 0,.int .u64 0]⟩]:=by
   intro q3;refine (hA _ _ _).2 (WT.step [4,7] (by decide) hc hT ⟨⟨_,rfl,?_⟩,⟨_,rfl,?_⟩,trivial⟩)
   ·(refine WO.makes (zh (cs:=[.slice (some ⟨q3,0,none⟩) 1 1]) rfl (by decide) rfl) ?_;intro q4);exact WT.go [(12,.slice (some ⟨q4,0,none⟩) 1 1)] hA (hS24 q3 q4)
   ·(refine WO.autoM (k:=?_);intro q7);exact WT.go [(5,pt q7)] hA (hS136 q3 q7)
  have hS128:∀ q7,A [7] [(5,pt q7),(0,.int .u8 (k:Int)),(1,pt g4),(2,pt g8),(4,pt gO)] [⟨q7,53,List.replicate 32 (.int .u8 0)⟩,⟨gR,105,vs++[z]⟩,⟨gO,24,[.int .u64 0,.int .u64 0,.int .u64 0,.int .u64 0]⟩]:=by
   intro q7;refine (hA _ _ _).2 (WT.step [3] (by decide) hc hT ⟨⟨_,rfl,?_⟩,trivial⟩)
   ·(refine WO.makes (zh (cs:=[.int .u8 (k:Int)]) rfl (by decide) rfl) ?_;intro q3);exact WT.go [(11,.slice (some ⟨q3,0,none⟩) 1 1)] hA (hS136 q3 q7)
  have hS0:A [] [(0,.int .u8 (k:Int)),(1,pt g4),(2,pt g8),(4,pt gO)] [⟨gR,105,vs++[z]⟩,⟨gO,24,[.int .u64 0,.int .u64 0,.int .u64 0,.int .u64 0]⟩]:=by
   refine (hA _ _ _).2 (WT.step [3,7] (by decide) hc hT ⟨⟨_,rfl,?_⟩,⟨_,rfl,?_⟩,trivial⟩)
   ·(refine WO.makes (zh (cs:=[.int .u8 (k:Int)]) rfl (by decide) rfl) ?_;intro q3);exact WT.go [(11,.slice (some ⟨q3,0,none⟩) 1 1)] hA (hS8 q3)
   ·(refine WO.autoM (k:=?_);intro q7);exact WT.go [(5,pt q7)] hA (hS128 q7)
  exact WT.less ((hA _ _ _).1 hS0) (by decide) Kle.a (by repeat (first|exact Lle.nil|exact Lle.same|refine Lle.c ?_))
 intro q3 q4 q7;refine (hA _ _ _).2 (WT.fin [3,4,5,6,7,8] 6 hc rfl (by kernel_rfl) ?_);clear hc hT hA;have hGL:=bG O q7 0 hlt houtl
 repeat (first|refine Ta ?_|(refine Tm ?_;intro _)|refine WO.does (vh rfl) ?_|refine WO.acallR (hc:=hGL) (hR:=fun w1 hm=>Hs.sg hm) (k:=?_)|refine Tc ?_|exact Tz)
 exact WX.retI (aE rfl ub) Hs.a ⟨_,rfl⟩
end Sx
end
end Go.Proofs.YtiiefkchpicncaaGreatDoor
