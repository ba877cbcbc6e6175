/- Part 23 of the proof. -/
import Derived.Test.YteibfbjpkjkejaaGreatDoorM18
import Derived.Test.YteibfbjpkjkejaaGreatDoorM20
set_option linter.unusedSimpArgs false
set_option linter.unusedVariables false
set_option maxHeartbeats 8000000
namespace Go.Proofs.YteibfbjpkjkejaaGreatDoor
section
open Go Go.RowKit Go.BigFrame
namespace Sx
attribute [local irreducible] DQ DQS WC WO WX
def RdB (v:Value) (X:List Nat) (B:Nat) (w:World):Prop :=
 ∃ p c,v=.slice p X.length c∧X.length≤c∧c<9223372036854775808∧((p=none∧X=[])∨∃ b o,p=some ⟨b,o,none⟩∧b<B∧Seg w b o (byC X))
theorem RdB.mod {v:Value} {X:List Nat} {B:Nat} {w w' : World} {gs:List Nat} (h:RdB v X B w) (hm:Mod gs w w') (hg:∀ g∈gs,B≤g):RdB v X B w':=by
 obtain⟨p,c,rfl,h1,h2,h3⟩:=h;refine⟨p,c,rfl,h1,h2,h3.imp id (fun ⟨b,o,e,hb,hs⟩=>⟨b,o,e,hb,hs.mod hm (fun hbg=>by have:=hg b hbg;omega)⟩)⟩
theorem RdB.rdP {v:Value} {X:List Nat} {B:Nat} {w:World} (h:RdB v X B w) (hB:B≤w.heap.size):RdP v X w:=by
 obtain⟨p,c,rfl,h1,h2,h3⟩:=h;exact⟨p,c,rfl,h1,h2,h3.imp id (fun ⟨b,o,e,hb,hs⟩=>⟨b,o,e,by omega,hs⟩)⟩
def r8 (vs:List Value) (Ps:List (List Nat)) (B:Nat) (w:World):Prop:=vs.length=Ps.length∧∀ (i:Nat) (v:Value) (X:List Nat),vs[i]?=some v→Ps[i]?=some X→RdB v X B w
theorem r8.mod {vs:List Value} {Ps:List (List Nat)} {B:Nat} {w w' : World} {gs:List Nat} (h:r8 vs Ps B w) (hm:Mod gs w w') (hg:∀ g∈gs,B≤g):r8 vs Ps B w':=⟨h.1,fun i v X h1 h2=>(h.2 i v X h1 h2).mod hm hg⟩
theorem r8.parts {vs:List Value} {Ps:List (List Nat)} {B:Nat} {w:World} (h:r8 vs Ps B w) (hB:B≤w.heap.size):ya vs Ps w:=⟨h.1,fun i v X h1 h2=>(h.2 i v X h1 h2).rdP hB⟩
theorem ya.partsB {vs:List Value} {Ps:List (List Nat)} {w:World} (h:ya vs Ps w):r8 vs Ps w.heap.size w:=h
theorem abo (s:List Nat) (Ps:List (List Nat)):(byC (hOf s Ps)).length=32:=by
 rw[zh];unfold hOf Sha.sum;rw[ul,v8 rfl]
theorem y7 (s:List Nat) (Ps:List (List Nat)):(hOf s Ps).length=32:=by
 unfold hOf Sha.sum;rw[ul,v8 rfl]
theorem abh (s:List Nat):∀ x∈Sha.outs s,x<256:=by
 intro x hx;unfold Sha.outs at hx;obtain⟨y,_,hy⟩:=List.mem_flatMap.1 hx;simp only[List.mem_cons,List.not_mem_nil,or_false] at hy
 rcases hy with rfl|rfl|rfl|rfl<;>exact Nat.mod_lt _ (by omega)
theorem qF (s:List Nat) (Ps:List (List Nat)):∀ x∈hOf s Ps,x<256:=abh _
theorem tt (vs:List Value) (z y:Value):over (vs++[z]) vs.length [y]=vs++[y]:=by
 unfold over;rw[List.take_left,List.drop_of_length_le (by simp)];simp
def aeR (vs:List Value) (cs:List Value):Prop:=∃ z,cs=vs++[z]
theorem acu (s:ByteArray) (vs:List Value) (Ps:List (List Nat)) (gR g4 g8 B k:Nat) (hP:∀ X∈Ps,∀ x∈X,x<256) (hk:k<256) (hb:(yO (yg s) Ps).length≤1152921504606830000) (hs:s.size≤274877906944) (h4:g4≠gR) (h8:g8≠gR) (hB:B≤gR) (hN:vs.length<1099511627776) :
  FnI Tryz.prog 130 [.int .u8 (k:Int),pt g4,pt g8] gR 95 (aeR vs)
   (fun w=>Seg w g4 0 [.string s]∧Seg w g8 0 [.slice (some ⟨gR,0,none⟩) vs.length (vs.length+1)]∧r8 vs Ps B w) (zi (beV (hOf (yg s) (Ps++[[k]])))):=by
 refine FnI.enter Tryz.func130 rfl rfl rfl ?_;rintro w cs ⟨z,rfl⟩ ⟨hw1,hw2,hw3⟩;have hbl:(yO (yg s) (Ps++[[k]])).length≤1152921504606840000:=by
  unfold yO tk at hb ⊢;rw[po];simp only[List.length_append,zk,List.length_cons,List.length_nil] at hb ⊢;omega
 have hH:=fun g3=>am s (vs++[.slice (some ⟨g3,0,none⟩) 1 1]) (Ps++[[k]]) gR 0 (vs.length+1) (fun X hX x hx=>by
  rcases List.mem_append.1 hX with hX|hX
  ·exact hP X hX x hx
  ·simp at hX;subst hX;simp at hx;omega) hbl hs
 simp only[List.length_append,List.length_cons,List.length_nil,Nat.zero_add] at hH;have hout:=abo (yg s) (Ps++[[k]]);have houtl:=y7 (yg s) (Ps++[[k]]);have hlt:=qF (yg s) (Ps++[[k]]);have h4' : g4 ∉ [gR]:=by simpa using h4
 have h8' : g8 ∉ [gR]:=by simpa using h8
 generalize hO:hOf (yg s) (Ps++[[k]])=O at *
 repeat (first|refine Tw ?_|(refine Tm ?_;intro _)|exact Tz)
 rename_i gO;refine WC.allA (fun A hA=>?_)
 suffices hS511:∀ q3 q4 q7,A [(8,.string s),(9,.slice (some ⟨gR,0,none⟩) vs.length (vs.length+1)),(10,.int .u8 (k:Int)),(11,.slice (some ⟨q3,0,none⟩) 1 1),(12,.slice (some ⟨q4,0,none⟩) 1 1),(13,.slice (some ⟨gR,0,none⟩) (vs.length+1) (vs.length+1)),(14,.agg (byC O).toArray),(5,pt q7),(0,.int .u8 (k:Int)),(1,pt g4),(2,pt g8),(4,pt gO)] [⟨q3,5,[.int .u8 (k:Int)]⟩,⟨q4,95,[.slice (some ⟨q3,0,none⟩) 1 1]⟩,⟨q7,60,byC O⟩,⟨gR,95,vs++[.slice (some ⟨q3,0,none⟩) 1 1]⟩,⟨gO,24,[.int .u64 0,.int .u64 0,.int .u64 0,.int .u64 0]⟩] (bt 9 511) 0 by
  have hS255:∀ q3 q4 q7,A [(8,.string s),(9,.slice (some ⟨gR,0,none⟩) vs.length (vs.length+1)),(10,.int .u8 (k:Int)),(11,.slice (some ⟨q3,0,none⟩) 1 1),(12,.slice (some ⟨q4,0,none⟩) 1 1),(13,.slice (some ⟨gR,0,none⟩) (vs.length+1) (vs.length+1)),(14,.agg (byC O).toArray),(5,pt q7),(0,.int .u8 (k:Int)),(1,pt g4),(2,pt g8),(4,pt gO)] [⟨q3,5,[.int .u8 (k:Int)]⟩,⟨q4,95,[.slice (some ⟨q3,0,none⟩) 1 1]⟩,⟨q7,60,List.replicate 32 (.int .u8 0)⟩,⟨gR,95,vs++[.slice (some ⟨q3,0,none⟩) 1 1]⟩,⟨gO,24,[.int .u64 0,.int .u64 0,.int .u64 0,.int .u64 0]⟩] (bt 9 255) 1:=by
   intro q3 q4 q7;refine (hA _ _ _ _).2 (WA.step [8] (.cons ?_ .nil))
   ·refine WO.stores (zB (vs:=byC O) (cs':=byC O) (hl:=hout) (h1:=yr _) (hc:=yu (by rw[hout];rfl)) (hle:=by rw[hout];rfl)) ?_;exact WA.go hA (hS511 q3 q4 q7)
  have hS127:∀ q3 q4,A [(8,.string s),(9,.slice (some ⟨gR,0,none⟩) vs.length (vs.length+1)),(10,.int .u8 (k:Int)),(11,.slice (some ⟨q3,0,none⟩) 1 1),(12,.slice (some ⟨q4,0,none⟩) 1 1),(13,.slice (some ⟨gR,0,none⟩) (vs.length+1) (vs.length+1)),(14,.agg (byC O).toArray),(0,.int .u8 (k:Int)),(1,pt g4),(2,pt g8),(4,pt gO)] [⟨q3,5,[.int .u8 (k:Int)]⟩,⟨q4,95,[.slice (some ⟨q3,0,none⟩) 1 1]⟩,⟨gR,95,vs++[.slice (some ⟨q3,0,none⟩) 1 1]⟩,⟨gO,24,[.int .u64 0,.int .u64 0,.int .u64 0,.int .u64 0]⟩] (bt 9 127) 2:=by
   intro q3 q4;refine (hA _ _ _ _).2 (WA.step [7] (.cons ?_ .nil))
   ·(refine WO.autoM (k:=?_);intro q7);exact WA.go hA (hS255 q3 q4 q7)
  have hS191:∀ q3 q4 q7,A [(8,.string s),(9,.slice (some ⟨gR,0,none⟩) vs.length (vs.length+1)),(10,.int .u8 (k:Int)),(11,.slice (some ⟨q3,0,none⟩) 1 1),(12,.slice (some ⟨q4,0,none⟩) 1 1),(13,.slice (some ⟨gR,0,none⟩) (vs.length+1) (vs.length+1)),(5,pt q7),(0,.int .u8 (k:Int)),(1,pt g4),(2,pt g8),(4,pt gO)] [⟨q3,5,[.int .u8 (k:Int)]⟩,⟨q4,95,[.slice (some ⟨q3,0,none⟩) 1 1]⟩,⟨q7,60,List.replicate 32 (.int .u8 0)⟩,⟨gR,95,vs++[.slice (some ⟨q3,0,none⟩) 1 1]⟩,⟨gO,24,[.int .u64 0,.int .u64 0,.int .u64 0,.int .u64 0]⟩] (bt 9 191) 2:=by
   intro q3 q4 q7;refine (hA _ _ _ _).2 (WA.step [6] (.cons ?_ .nil))
   ·refine WO.acallR (hc:=hH q3) (hR:=fun w1 hm=>⟨Hs.sg hm,ya.snoc (RdP.own0 (g:=q3) (X:=[k]) hm Hs.a (by simp) (by omega)) ((hw3.mod hm.mod (by simpa using hB)).parts (by have:=(hm.ok ⟨gR,_,_⟩ (Hs.mem Hs.a)).lt;simp only at this;omega))⟩) (k:=?_);exact WA.go hA (hS255 q3 q4 q7)
  have hS63:∀ q3 q4,A [(8,.string s),(9,.slice (some ⟨gR,0,none⟩) vs.length (vs.length+1)),(10,.int .u8 (k:Int)),(11,.slice (some ⟨q3,0,none⟩) 1 1),(12,.slice (some ⟨q4,0,none⟩) 1 1),(13,.slice (some ⟨gR,0,none⟩) (vs.length+1) (vs.length+1)),(0,.int .u8 (k:Int)),(1,pt g4),(2,pt g8),(4,pt gO)] [⟨q3,5,[.int .u8 (k:Int)]⟩,⟨q4,95,[.slice (some ⟨q3,0,none⟩) 1 1]⟩,⟨gR,95,vs++[.slice (some ⟨q3,0,none⟩) 1 1]⟩,⟨gO,24,[.int .u64 0,.int .u64 0,.int .u64 0,.int .u64 0]⟩] (bt 9 63) 3:=by
   intro q3 q4;refine (hA _ _ _ _).2 (WA.step [6,7] (.cons ?_ (.cons ?_ .nil)))
   ·refine WO.acallR (hc:=hH q3) (hR:=fun w1 hm=>⟨Hs.sg hm,ya.snoc (RdP.own0 (g:=q3) (X:=[k]) hm Hs.a (by simp) (by omega)) ((hw3.mod hm.mod (by simpa using hB)).parts (by have:=(hm.ok ⟨gR,_,_⟩ (Hs.mem Hs.a)).lt;simp only at this;omega))⟩) (k:=?_);exact WA.go hA (hS127 q3 q4)
   ·(refine WO.autoM (k:=?_);intro q7);exact WA.go hA (hS191 q3 q4 q7)
  have hS159:∀ q3 q4 q7,A [(8,.string s),(9,.slice (some ⟨gR,0,none⟩) vs.length (vs.length+1)),(10,.int .u8 (k:Int)),(11,.slice (some ⟨q3,0,none⟩) 1 1),(12,.slice (some ⟨q4,0,none⟩) 1 1),(5,pt q7),(0,.int .u8 (k:Int)),(1,pt g4),(2,pt g8),(4,pt gO)] [⟨q3,5,[.int .u8 (k:Int)]⟩,⟨q4,95,[.slice (some ⟨q3,0,none⟩) 1 1]⟩,⟨q7,60,List.replicate 32 (.int .u8 0)⟩,⟨gR,95,vs++[z]⟩,⟨gO,24,[.int .u64 0,.int .u64 0,.int .u64 0,.int .u64 0]⟩] (bt 9 159) 3:=by
   intro q3 q4 q7;refine (hA _ _ _ _).2 (WA.step [5] (.cons ?_ .nil))
   ·refine WO.both (ss (n:=1) (xs:=[.slice (some ⟨q3,0,none⟩) 1 1]) rfl rfl (Rds.own (g:=q4) (m:=1) Hs.a rfl) rfl (by omega) rfl (by repeat (first|exact Rp.here|apply Rp.there)) (tt vs z _) (by simp) (by decide) rfl) ?_;exact WA.go hA (hS191 q3 q4 q7)
  have hS190:∀ q3 q4 q7,A [(9,.slice (some ⟨gR,0,none⟩) vs.length (vs.length+1)),(10,.int .u8 (k:Int)),(11,.slice (some ⟨q3,0,none⟩) 1 1),(12,.slice (some ⟨q4,0,none⟩) 1 1),(13,.slice (some ⟨gR,0,none⟩) (vs.length+1) (vs.length+1)),(5,pt q7),(0,.int .u8 (k:Int)),(1,pt g4),(2,pt g8),(4,pt gO)] [⟨q3,5,[.int .u8 (k:Int)]⟩,⟨q4,95,[.slice (some ⟨q3,0,none⟩) 1 1]⟩,⟨q7,60,List.replicate 32 (.int .u8 0)⟩,⟨gR,95,vs++[.slice (some ⟨q3,0,none⟩) 1 1]⟩,⟨gO,24,[.int .u64 0,.int .u64 0,.int .u64 0,.int .u64 0]⟩] (bt 9 190) 3:=by
   intro q3 q4 q7;refine (hA _ _ _ _).2 (WA.step [0] (.cons ?_ .nil))
   ·refine WO.does (zj (hs:=hw1) (hb:=h4')) ?_;exact WA.go hA (hS191 q3 q4 q7)
  have hS31:∀ q3 q4,A [(8,.string s),(9,.slice (some ⟨gR,0,none⟩) vs.length (vs.length+1)),(10,.int .u8 (k:Int)),(11,.slice (some ⟨q3,0,none⟩) 1 1),(12,.slice (some ⟨q4,0,none⟩) 1 1),(0,.int .u8 (k:Int)),(1,pt g4),(2,pt g8),(4,pt gO)] [⟨q3,5,[.int .u8 (k:Int)]⟩,⟨q4,95,[.slice (some ⟨q3,0,none⟩) 1 1]⟩,⟨gR,95,vs++[z]⟩,⟨gO,24,[.int .u64 0,.int .u64 0,.int .u64 0,.int .u64 0]⟩] (bt 9 31) 4:=by
   intro q3 q4;refine (hA _ _ _ _).2 (WA.step [5,7] (.cons ?_ (.cons ?_ .nil)))
   ·refine WO.both (ss (n:=1) (xs:=[.slice (some ⟨q3,0,none⟩) 1 1]) rfl rfl (Rds.own (g:=q4) (m:=1) Hs.a rfl) rfl (by omega) rfl (by repeat (first|exact Rp.here|apply Rp.there)) (tt vs z _) (by simp) (by decide) rfl) ?_;exact WA.go hA (hS63 q3 q4)
   ·(refine WO.autoM (k:=?_);intro q7);exact WA.go hA (hS159 q3 q4 q7)
  have hS143:∀ q3 q7,A [(8,.string s),(9,.slice (some ⟨gR,0,none⟩) vs.length (vs.length+1)),(10,.int .u8 (k:Int)),(11,.slice (some ⟨q3,0,none⟩) 1 1),(5,pt q7),(0,.int .u8 (k:Int)),(1,pt g4),(2,pt g8),(4,pt gO)] [⟨q3,5,[.int .u8 (k:Int)]⟩,⟨q7,60,List.replicate 32 (.int .u8 0)⟩,⟨gR,95,vs++[z]⟩,⟨gO,24,[.int .u64 0,.int .u64 0,.int .u64 0,.int .u64 0]⟩] (bt 9 143) 4:=by
   intro q3 q7;refine (hA _ _ _ _).2 (WA.step [4] (.cons ?_ .nil))
   ·(refine WO.makes (ze (cs:=[.slice (some ⟨q3,0,none⟩) 1 1]) rfl (by decide) rfl) ?_;intro q4);exact WA.go hA (hS159 q3 q4 q7)
  have hS157:∀ q3 q4 q7,A [(8,.string s),(10,.int .u8 (k:Int)),(11,.slice (some ⟨q3,0,none⟩) 1 1),(12,.slice (some ⟨q4,0,none⟩) 1 1),(5,pt q7),(0,.int .u8 (k:Int)),(1,pt g4),(2,pt g8),(4,pt gO)] [⟨q3,5,[.int .u8 (k:Int)]⟩,⟨q4,95,[.slice (some ⟨q3,0,none⟩) 1 1]⟩,⟨q7,60,List.replicate 32 (.int .u8 0)⟩,⟨gR,95,vs++[z]⟩,⟨gO,24,[.int .u64 0,.int .u64 0,.int .u64 0,.int .u64 0]⟩] (bt 9 157) 4:=by
   intro q3 q4 q7;refine (hA _ _ _ _).2 (WA.step [1] (.cons ?_ .nil))
   ·refine WO.does (zj (hs:=hw2) (hb:=h8')) ?_;exact WA.go hA (hS159 q3 q4 q7)
  have hS62:∀ q3 q4,A [(9,.slice (some ⟨gR,0,none⟩) vs.length (vs.length+1)),(10,.int .u8 (k:Int)),(11,.slice (some ⟨q3,0,none⟩) 1 1),(12,.slice (some ⟨q4,0,none⟩) 1 1),(13,.slice (some ⟨gR,0,none⟩) (vs.length+1) (vs.length+1)),(0,.int .u8 (k:Int)),(1,pt g4),(2,pt g8),(4,pt gO)] [⟨q3,5,[.int .u8 (k:Int)]⟩,⟨q4,95,[.slice (some ⟨q3,0,none⟩) 1 1]⟩,⟨gR,95,vs++[.slice (some ⟨q3,0,none⟩) 1 1]⟩,⟨gO,24,[.int .u64 0,.int .u64 0,.int .u64 0,.int .u64 0]⟩] (bt 9 62) 4:=by
   intro q3 q4;refine (hA _ _ _ _).2 (WA.step [0,7] (.cons ?_ (.cons ?_ .nil)))
   ·refine WO.does (zj (hs:=hw1) (hb:=h4')) ?_;exact WA.go hA (hS63 q3 q4)
   ·(refine WO.autoM (k:=?_);intro q7);exact WA.go hA (hS190 q3 q4 q7)
  have hS158:∀ q3 q4 q7,A [(9,.slice (some ⟨gR,0,none⟩) vs.length (vs.length+1)),(10,.int .u8 (k:Int)),(11,.slice (some ⟨q3,0,none⟩) 1 1),(12,.slice (some ⟨q4,0,none⟩) 1 1),(5,pt q7),(0,.int .u8 (k:Int)),(1,pt g4),(2,pt g8),(4,pt gO)] [⟨q3,5,[.int .u8 (k:Int)]⟩,⟨q4,95,[.slice (some ⟨q3,0,none⟩) 1 1]⟩,⟨q7,60,List.replicate 32 (.int .u8 0)⟩,⟨gR,95,vs++[z]⟩,⟨gO,24,[.int .u64 0,.int .u64 0,.int .u64 0,.int .u64 0]⟩] (bt 9 158) 4:=by
   intro q3 q4 q7;refine (hA _ _ _ _).2 (WA.step [0,5] (.cons ?_ (.cons ?_ .nil)))
   ·refine WO.does (zj (hs:=hw1) (hb:=h4')) ?_;exact WA.go hA (hS159 q3 q4 q7)
   ·refine WO.both (ss (n:=1) (xs:=[.slice (some ⟨q3,0,none⟩) 1 1]) rfl rfl (Rds.own (g:=q4) (m:=1) Hs.a rfl) rfl (by omega) rfl (by repeat (first|exact Rp.here|apply Rp.there)) (tt vs z _) (by simp) (by decide) rfl) ?_;exact WA.go hA (hS190 q3 q4 q7)
  have hS15:∀ q3,A [(8,.string s),(9,.slice (some ⟨gR,0,none⟩) vs.length (vs.length+1)),(10,.int .u8 (k:Int)),(11,.slice (some ⟨q3,0,none⟩) 1 1),(0,.int .u8 (k:Int)),(1,pt g4),(2,pt g8),(4,pt gO)] [⟨q3,5,[.int .u8 (k:Int)]⟩,⟨gR,95,vs++[z]⟩,⟨gO,24,[.int .u64 0,.int .u64 0,.int .u64 0,.int .u64 0]⟩] (bt 9 15) 5:=by
   intro q3;refine (hA _ _ _ _).2 (WA.step [4,7] (.cons ?_ (.cons ?_ .nil)))
   ·(refine WO.makes (ze (cs:=[.slice (some ⟨q3,0,none⟩) 1 1]) rfl (by decide) rfl) ?_;intro q4);exact WA.go hA (hS31 q3 q4)
   ·(refine WO.autoM (k:=?_);intro q7);exact WA.go hA (hS143 q3 q7)
  have hS135:∀ q7,A [(8,.string s),(9,.slice (some ⟨gR,0,none⟩) vs.length (vs.length+1)),(10,.int .u8 (k:Int)),(5,pt q7),(0,.int .u8 (k:Int)),(1,pt g4),(2,pt g8),(4,pt gO)] [⟨q7,60,List.replicate 32 (.int .u8 0)⟩,⟨gR,95,vs++[z]⟩,⟨gO,24,[.int .u64 0,.int .u64 0,.int .u64 0,.int .u64 0]⟩] (bt 9 135) 5:=by
   intro q7;refine (hA _ _ _ _).2 (WA.step [3] (.cons ?_ .nil))
   ·(refine WO.makes (ze (cs:=[.int .u8 (k:Int)]) rfl (by decide) rfl) ?_;intro q3);exact WA.go hA (hS143 q3 q7)
  have hS29:∀ q3 q4,A [(8,.string s),(10,.int .u8 (k:Int)),(11,.slice (some ⟨q3,0,none⟩) 1 1),(12,.slice (some ⟨q4,0,none⟩) 1 1),(0,.int .u8 (k:Int)),(1,pt g4),(2,pt g8),(4,pt gO)] [⟨q3,5,[.int .u8 (k:Int)]⟩,⟨q4,95,[.slice (some ⟨q3,0,none⟩) 1 1]⟩,⟨gR,95,vs++[z]⟩,⟨gO,24,[.int .u64 0,.int .u64 0,.int .u64 0,.int .u64 0]⟩] (bt 9 29) 5:=by
   intro q3 q4;refine (hA _ _ _ _).2 (WA.step [1,7] (.cons ?_ (.cons ?_ .nil)))
   ·refine WO.does (zj (hs:=hw2) (hb:=h8')) ?_;exact WA.go hA (hS31 q3 q4)
   ·(refine WO.autoM (k:=?_);intro q7);exact WA.go hA (hS157 q3 q4 q7)
  have hS141:∀ q3 q7,A [(8,.string s),(10,.int .u8 (k:Int)),(11,.slice (some ⟨q3,0,none⟩) 1 1),(5,pt q7),(0,.int .u8 (k:Int)),(1,pt g4),(2,pt g8),(4,pt gO)] [⟨q3,5,[.int .u8 (k:Int)]⟩,⟨q7,60,List.replicate 32 (.int .u8 0)⟩,⟨gR,95,vs++[z]⟩,⟨gO,24,[.int .u64 0,.int .u64 0,.int .u64 0,.int .u64 0]⟩] (bt 9 141) 5:=by
   intro q3 q7;refine (hA _ _ _ _).2 (WA.step [1,4] (.cons ?_ (.cons ?_ .nil)))
   ·refine WO.does (zj (hs:=hw2) (hb:=h8')) ?_;exact WA.go hA (hS143 q3 q7)
   ·(refine WO.makes (ze (cs:=[.slice (some ⟨q3,0,none⟩) 1 1]) rfl (by decide) rfl) ?_;intro q4);exact WA.go hA (hS157 q3 q4 q7)
  have hS30:∀ q3 q4,A [(9,.slice (some ⟨gR,0,none⟩) vs.length (vs.length+1)),(10,.int .u8 (k:Int)),(11,.slice (some ⟨q3,0,none⟩) 1 1),(12,.slice (some ⟨q4,0,none⟩) 1 1),(0,.int .u8 (k:Int)),(1,pt g4),(2,pt g8),(4,pt gO)] [⟨q3,5,[.int .u8 (k:Int)]⟩,⟨q4,95,[.slice (some ⟨q3,0,none⟩) 1 1]⟩,⟨gR,95,vs++[z]⟩,⟨gO,24,[.int .u64 0,.int .u64 0,.int .u64 0,.int .u64 0]⟩] (bt 9 30) 5:=by
   intro q3 q4;refine (hA _ _ _ _).2 (WA.step [0,5,7] (.cons ?_ (.cons ?_ (.cons ?_ .nil))))
   ·refine WO.does (zj (hs:=hw1) (hb:=h4')) ?_;exact WA.go hA (hS31 q3 q4)
   ·refine WO.both (ss (n:=1) (xs:=[.slice (some ⟨q3,0,none⟩) 1 1]) rfl rfl (Rds.own (g:=q4) (m:=1) Hs.a rfl) rfl (by omega) rfl (by repeat (first|exact Rp.here|apply Rp.there)) (tt vs z _) (by simp) (by decide) rfl) ?_;exact WA.go hA (hS62 q3 q4)
   ·(refine WO.autoM (k:=?_);intro q7);exact WA.go hA (hS158 q3 q4 q7)
  have hS142:∀ q3 q7,A [(9,.slice (some ⟨gR,0,none⟩) vs.length (vs.length+1)),(10,.int .u8 (k:Int)),(11,.slice (some ⟨q3,0,none⟩) 1 1),(5,pt q7),(0,.int .u8 (k:Int)),(1,pt g4),(2,pt g8),(4,pt gO)] [⟨q3,5,[.int .u8 (k:Int)]⟩,⟨q7,60,List.replicate 32 (.int .u8 0)⟩,⟨gR,95,vs++[z]⟩,⟨gO,24,[.int .u64 0,.int .u64 0,.int .u64 0,.int .u64 0]⟩] (bt 9 142) 5:=by
   intro q3 q7;refine (hA _ _ _ _).2 (WA.step [0,4] (.cons ?_ (.cons ?_ .nil)))
   ·refine WO.does (zj (hs:=hw1) (hb:=h4')) ?_;exact WA.go hA (hS143 q3 q7)
   ·(refine WO.makes (ze (cs:=[.slice (some ⟨q3,0,none⟩) 1 1]) rfl (by decide) rfl) ?_;intro q4);exact WA.go hA (hS158 q3 q4 q7)
  have hS156:∀ q3 q4 q7,A [(10,.int .u8 (k:Int)),(11,.slice (some ⟨q3,0,none⟩) 1 1),(12,.slice (some ⟨q4,0,none⟩) 1 1),(5,pt q7),(0,.int .u8 (k:Int)),(1,pt g4),(2,pt g8),(4,pt gO)] [⟨q3,5,[.int .u8 (k:Int)]⟩,⟨q4,95,[.slice (some ⟨q3,0,none⟩) 1 1]⟩,⟨q7,60,List.replicate 32 (.int .u8 0)⟩,⟨gR,95,vs++[z]⟩,⟨gO,24,[.int .u64 0,.int .u64 0,.int .u64 0,.int .u64 0]⟩] (bt 9 156) 5:=by
   intro q3 q4 q7;refine (hA _ _ _ _).2 (WA.step [0,1] (.cons ?_ (.cons ?_ .nil)))
   ·refine WO.does (zj (hs:=hw1) (hb:=h4')) ?_;exact WA.go hA (hS157 q3 q4 q7)
   ·refine WO.does (zj (hs:=hw2) (hb:=h8')) ?_;exact WA.go hA (hS158 q3 q4 q7)
  have hS7:A [(8,.string s),(9,.slice (some ⟨gR,0,none⟩) vs.length (vs.length+1)),(10,.int .u8 (k:Int)),(0,.int .u8 (k:Int)),(1,pt g4),(2,pt g8),(4,pt gO)] [⟨gR,95,vs++[z]⟩,⟨gO,24,[.int .u64 0,.int .u64 0,.int .u64 0,.int .u64 0]⟩] (bt 9 7) 6:=by
   refine (hA _ _ _ _).2 (WA.step [3,7] (.cons ?_ (.cons ?_ .nil)))
   ·(refine WO.makes (ze (cs:=[.int .u8 (k:Int)]) rfl (by decide) rfl) ?_;intro q3);exact WA.go hA (hS15 q3)
   ·(refine WO.autoM (k:=?_);intro q7);exact WA.go hA (hS135 q7)
  have hS131:∀ q7,A [(8,.string s),(9,.slice (some ⟨gR,0,none⟩) vs.length (vs.length+1)),(5,pt q7),(0,.int .u8 (k:Int)),(1,pt g4),(2,pt g8),(4,pt gO)] [⟨q7,60,List.replicate 32 (.int .u8 0)⟩,⟨gR,95,vs++[z]⟩,⟨gO,24,[.int .u64 0,.int .u64 0,.int .u64 0,.int .u64 0]⟩] (bt 9 131) 6:=by
   intro q7;refine (hA _ _ _ _).2 (WA.step [2] (.cons ?_ .nil))
   ·refine Tw ?_;exact WA.go hA (hS135 q7)
  have hS13:∀ q3,A [(8,.string s),(10,.int .u8 (k:Int)),(11,.slice (some ⟨q3,0,none⟩) 1 1),(0,.int .u8 (k:Int)),(1,pt g4),(2,pt g8),(4,pt gO)] [⟨q3,5,[.int .u8 (k:Int)]⟩,⟨gR,95,vs++[z]⟩,⟨gO,24,[.int .u64 0,.int .u64 0,.int .u64 0,.int .u64 0]⟩] (bt 9 13) 6:=by
   intro q3;refine (hA _ _ _ _).2 (WA.step [1,4,7] (.cons ?_ (.cons ?_ (.cons ?_ .nil))))
   ·refine WO.does (zj (hs:=hw2) (hb:=h8')) ?_;exact WA.go hA (hS15 q3)
   ·(refine WO.makes (ze (cs:=[.slice (some ⟨q3,0,none⟩) 1 1]) rfl (by decide) rfl) ?_;intro q4);exact WA.go hA (hS29 q3 q4)
   ·(refine WO.autoM (k:=?_);intro q7);exact WA.go hA (hS141 q3 q7)
  have hS133:∀ q7,A [(8,.string s),(10,.int .u8 (k:Int)),(5,pt q7),(0,.int .u8 (k:Int)),(1,pt g4),(2,pt g8),(4,pt gO)] [⟨q7,60,List.replicate 32 (.int .u8 0)⟩,⟨gR,95,vs++[z]⟩,⟨gO,24,[.int .u64 0,.int .u64 0,.int .u64 0,.int .u64 0]⟩] (bt 9 133) 6:=by
   intro q7;refine (hA _ _ _ _).2 (WA.step [1,3] (.cons ?_ (.cons ?_ .nil)))
   ·refine WO.does (zj (hs:=hw2) (hb:=h8')) ?_;exact WA.go hA (hS135 q7)
   ·(refine WO.makes (ze (cs:=[.int .u8 (k:Int)]) rfl (by decide) rfl) ?_;intro q3);exact WA.go hA (hS141 q3 q7)
  have hS14:∀ q3,A [(9,.slice (some ⟨gR,0,none⟩) vs.length (vs.length+1)),(10,.int .u8 (k:Int)),(11,.slice (some ⟨q3,0,none⟩) 1 1),(0,.int .u8 (k:Int)),(1,pt g4),(2,pt g8),(4,pt gO)] [⟨q3,5,[.int .u8 (k:Int)]⟩,⟨gR,95,vs++[z]⟩,⟨gO,24,[.int .u64 0,.int .u64 0,.int .u64 0,.int .u64 0]⟩] (bt 9 14) 6:=by
   intro q3;refine (hA _ _ _ _).2 (WA.step [0,4,7] (.cons ?_ (.cons ?_ (.cons ?_ .nil))))
   ·refine WO.does (zj (hs:=hw1) (hb:=h4')) ?_;exact WA.go hA (hS15 q3)
   ·(refine WO.makes (ze (cs:=[.slice (some ⟨q3,0,none⟩) 1 1]) rfl (by decide) rfl) ?_;intro q4);exact WA.go hA (hS30 q3 q4)
   ·(refine WO.autoM (k:=?_);intro q7);exact WA.go hA (hS142 q3 q7)
  have hS134:∀ q7,A [(9,.slice (some ⟨gR,0,none⟩) vs.length (vs.length+1)),(10,.int .u8 (k:Int)),(5,pt q7),(0,.int .u8 (k:Int)),(1,pt g4),(2,pt g8),(4,pt gO)] [⟨q7,60,List.replicate 32 (.int .u8 0)⟩,⟨gR,95,vs++[z]⟩,⟨gO,24,[.int .u64 0,.int .u64 0,.int .u64 0,.int .u64 0]⟩] (bt 9 134) 6:=by
   intro q7;refine (hA _ _ _ _).2 (WA.step [0,3] (.cons ?_ (.cons ?_ .nil)))
   ·refine WO.does (zj (hs:=hw1) (hb:=h4')) ?_;exact WA.go hA (hS135 q7)
   ·(refine WO.makes (ze (cs:=[.int .u8 (k:Int)]) rfl (by decide) rfl) ?_;intro q3);exact WA.go hA (hS142 q3 q7)
  have hS28:∀ q3 q4,A [(10,.int .u8 (k:Int)),(11,.slice (some ⟨q3,0,none⟩) 1 1),(12,.slice (some ⟨q4,0,none⟩) 1 1),(0,.int .u8 (k:Int)),(1,pt g4),(2,pt g8),(4,pt gO)] [⟨q3,5,[.int .u8 (k:Int)]⟩,⟨q4,95,[.slice (some ⟨q3,0,none⟩) 1 1]⟩,⟨gR,95,vs++[z]⟩,⟨gO,24,[.int .u64 0,.int .u64 0,.int .u64 0,.int .u64 0]⟩] (bt 9 28) 6:=by
   intro q3 q4;refine (hA _ _ _ _).2 (WA.step [0,1,7] (.cons ?_ (.cons ?_ (.cons ?_ .nil))))
   ·refine WO.does (zj (hs:=hw1) (hb:=h4')) ?_;exact WA.go hA (hS29 q3 q4)
   ·refine WO.does (zj (hs:=hw2) (hb:=h8')) ?_;exact WA.go hA (hS30 q3 q4)
   ·(refine WO.autoM (k:=?_);intro q7);exact WA.go hA (hS156 q3 q4 q7)
  have hS140:∀ q3 q7,A [(10,.int .u8 (k:Int)),(11,.slice (some ⟨q3,0,none⟩) 1 1),(5,pt q7),(0,.int .u8 (k:Int)),(1,pt g4),(2,pt g8),(4,pt gO)] [⟨q3,5,[.int .u8 (k:Int)]⟩,⟨q7,60,List.replicate 32 (.int .u8 0)⟩,⟨gR,95,vs++[z]⟩,⟨gO,24,[.int .u64 0,.int .u64 0,.int .u64 0,.int .u64 0]⟩] (bt 9 140) 6:=by
   intro q3 q7;refine (hA _ _ _ _).2 (WA.step [0,1,4] (.cons ?_ (.cons ?_ (.cons ?_ .nil))))
   ·refine WO.does (zj (hs:=hw1) (hb:=h4')) ?_;exact WA.go hA (hS141 q3 q7)
   ·refine WO.does (zj (hs:=hw2) (hb:=h8')) ?_;exact WA.go hA (hS142 q3 q7)
   ·(refine WO.makes (ze (cs:=[.slice (some ⟨q3,0,none⟩) 1 1]) rfl (by decide) rfl) ?_;intro q4);exact WA.go hA (hS156 q3 q4 q7)
  have hS3:A [(8,.string s),(9,.slice (some ⟨gR,0,none⟩) vs.length (vs.length+1)),(0,.int .u8 (k:Int)),(1,pt g4),(2,pt g8),(4,pt gO)] [⟨gR,95,vs++[z]⟩,⟨gO,24,[.int .u64 0,.int .u64 0,.int .u64 0,.int .u64 0]⟩] (bt 9 3) 7:=by
   refine (hA _ _ _ _).2 (WA.step [2,7] (.cons ?_ (.cons ?_ .nil)))
   ·refine Tw ?_;exact WA.go hA (hS7)
   ·(refine WO.autoM (k:=?_);intro q7);exact WA.go hA (hS131 q7)
  have hS5:A [(8,.string s),(10,.int .u8 (k:Int)),(0,.int .u8 (k:Int)),(1,pt g4),(2,pt g8),(4,pt gO)] [⟨gR,95,vs++[z]⟩,⟨gO,24,[.int .u64 0,.int .u64 0,.int .u64 0,.int .u64 0]⟩] (bt 9 5) 7:=by
   refine (hA _ _ _ _).2 (WA.step [1,3,7] (.cons ?_ (.cons ?_ (.cons ?_ .nil))))
   ·refine WO.does (zj (hs:=hw2) (hb:=h8')) ?_;exact WA.go hA (hS7)
   ·(refine WO.makes (ze (cs:=[.int .u8 (k:Int)]) rfl (by decide) rfl) ?_;intro q3);exact WA.go hA (hS13 q3)
   ·(refine WO.autoM (k:=?_);intro q7);exact WA.go hA (hS133 q7)
  have hS129:∀ q7,A [(8,.string s),(5,pt q7),(0,.int .u8 (k:Int)),(1,pt g4),(2,pt g8),(4,pt gO)] [⟨q7,60,List.replicate 32 (.int .u8 0)⟩,⟨gR,95,vs++[z]⟩,⟨gO,24,[.int .u64 0,.int .u64 0,.int .u64 0,.int .u64 0]⟩] (bt 9 129) 7:=by
   intro q7;refine (hA _ _ _ _).2 (WA.step [1,2] (.cons ?_ (.cons ?_ .nil)))
   ·refine WO.does (zj (hs:=hw2) (hb:=h8')) ?_;exact WA.go hA (hS131 q7)
   ·refine Tw ?_;exact WA.go hA (hS133 q7)
  have hS6:A [(9,.slice (some ⟨gR,0,none⟩) vs.length (vs.length+1)),(10,.int .u8 (k:Int)),(0,.int .u8 (k:Int)),(1,pt g4),(2,pt g8),(4,pt gO)] [⟨gR,95,vs++[z]⟩,⟨gO,24,[.int .u64 0,.int .u64 0,.int .u64 0,.int .u64 0]⟩] (bt 9 6) 7:=by
   refine (hA _ _ _ _).2 (WA.step [0,3,7] (.cons ?_ (.cons ?_ (.cons ?_ .nil))))
   ·refine WO.does (zj (hs:=hw1) (hb:=h4')) ?_;exact WA.go hA (hS7)
   ·(refine WO.makes (ze (cs:=[.int .u8 (k:Int)]) rfl (by decide) rfl) ?_;intro q3);exact WA.go hA (hS14 q3)
   ·(refine WO.autoM (k:=?_);intro q7);exact WA.go hA (hS134 q7)
  have hS130:∀ q7,A [(9,.slice (some ⟨gR,0,none⟩) vs.length (vs.length+1)),(5,pt q7),(0,.int .u8 (k:Int)),(1,pt g4),(2,pt g8),(4,pt gO)] [⟨q7,60,List.replicate 32 (.int .u8 0)⟩,⟨gR,95,vs++[z]⟩,⟨gO,24,[.int .u64 0,.int .u64 0,.int .u64 0,.int .u64 0]⟩] (bt 9 130) 7:=by
   intro q7;refine (hA _ _ _ _).2 (WA.step [0,2] (.cons ?_ (.cons ?_ .nil)))
   ·refine WO.does (zj (hs:=hw1) (hb:=h4')) ?_;exact WA.go hA (hS131 q7)
   ·refine Tw ?_;exact WA.go hA (hS134 q7)
  have hS12:∀ q3,A [(10,.int .u8 (k:Int)),(11,.slice (some ⟨q3,0,none⟩) 1 1),(0,.int .u8 (k:Int)),(1,pt g4),(2,pt g8),(4,pt gO)] [⟨q3,5,[.int .u8 (k:Int)]⟩,⟨gR,95,vs++[z]⟩,⟨gO,24,[.int .u64 0,.int .u64 0,.int .u64 0,.int .u64 0]⟩] (bt 9 12) 7:=by
   intro q3;refine (hA _ _ _ _).2 (WA.step [0,1,4,7] (.cons ?_ (.cons ?_ (.cons ?_ (.cons ?_ .nil)))))
   ·refine WO.does (zj (hs:=hw1) (hb:=h4')) ?_;exact WA.go hA (hS13 q3)
   ·refine WO.does (zj (hs:=hw2) (hb:=h8')) ?_;exact WA.go hA (hS14 q3)
   ·(refine WO.makes (ze (cs:=[.slice (some ⟨q3,0,none⟩) 1 1]) rfl (by decide) rfl) ?_;intro q4);exact WA.go hA (hS28 q3 q4)
   ·(refine WO.autoM (k:=?_);intro q7);exact WA.go hA (hS140 q3 q7)
  have hS132:∀ q7,A [(10,.int .u8 (k:Int)),(5,pt q7),(0,.int .u8 (k:Int)),(1,pt g4),(2,pt g8),(4,pt gO)] [⟨q7,60,List.replicate 32 (.int .u8 0)⟩,⟨gR,95,vs++[z]⟩,⟨gO,24,[.int .u64 0,.int .u64 0,.int .u64 0,.int .u64 0]⟩] (bt 9 132) 7:=by
   intro q7;refine (hA _ _ _ _).2 (WA.step [0,1,3] (.cons ?_ (.cons ?_ (.cons ?_ .nil))))
   ·refine WO.does (zj (hs:=hw1) (hb:=h4')) ?_;exact WA.go hA (hS133 q7)
   ·refine WO.does (zj (hs:=hw2) (hb:=h8')) ?_;exact WA.go hA (hS134 q7)
   ·(refine WO.makes (ze (cs:=[.int .u8 (k:Int)]) rfl (by decide) rfl) ?_;intro q3);exact WA.go hA (hS140 q3 q7)
  have hS1:A [(8,.string s),(0,.int .u8 (k:Int)),(1,pt g4),(2,pt g8),(4,pt gO)] [⟨gR,95,vs++[z]⟩,⟨gO,24,[.int .u64 0,.int .u64 0,.int .u64 0,.int .u64 0]⟩] (bt 9 1) 8:=by
   refine (hA _ _ _ _).2 (WA.step [1,2,7] (.cons ?_ (.cons ?_ (.cons ?_ .nil))))
   ·refine WO.does (zj (hs:=hw2) (hb:=h8')) ?_;exact WA.go hA (hS3)
   ·refine Tw ?_;exact WA.go hA (hS5)
   ·(refine WO.autoM (k:=?_);intro q7);exact WA.go hA (hS129 q7)
  have hS2:A [(9,.slice (some ⟨gR,0,none⟩) vs.length (vs.length+1)),(0,.int .u8 (k:Int)),(1,pt g4),(2,pt g8),(4,pt gO)] [⟨gR,95,vs++[z]⟩,⟨gO,24,[.int .u64 0,.int .u64 0,.int .u64 0,.int .u64 0]⟩] (bt 9 2) 8:=by
   refine (hA _ _ _ _).2 (WA.step [0,2,7] (.cons ?_ (.cons ?_ (.cons ?_ .nil))))
   ·refine WO.does (zj (hs:=hw1) (hb:=h4')) ?_;exact WA.go hA (hS3)
   ·refine Tw ?_;exact WA.go hA (hS6)
   ·(refine WO.autoM (k:=?_);intro q7);exact WA.go hA (hS130 q7)
  have hS4:A [(10,.int .u8 (k:Int)),(0,.int .u8 (k:Int)),(1,pt g4),(2,pt g8),(4,pt gO)] [⟨gR,95,vs++[z]⟩,⟨gO,24,[.int .u64 0,.int .u64 0,.int .u64 0,.int .u64 0]⟩] (bt 9 4) 8:=by
   refine (hA _ _ _ _).2 (WA.step [0,1,3,7] (.cons ?_ (.cons ?_ (.cons ?_ (.cons ?_ .nil)))))
   ·refine WO.does (zj (hs:=hw1) (hb:=h4')) ?_;exact WA.go hA (hS5)
   ·refine WO.does (zj (hs:=hw2) (hb:=h8')) ?_;exact WA.go hA (hS6)
   ·(refine WO.makes (ze (cs:=[.int .u8 (k:Int)]) rfl (by decide) rfl) ?_;intro q3);exact WA.go hA (hS12 q3)
   ·(refine WO.autoM (k:=?_);intro q7);exact WA.go hA (hS132 q7)
  have hS128:∀ q7,A [(5,pt q7),(0,.int .u8 (k:Int)),(1,pt g4),(2,pt g8),(4,pt gO)] [⟨q7,60,List.replicate 32 (.int .u8 0)⟩,⟨gR,95,vs++[z]⟩,⟨gO,24,[.int .u64 0,.int .u64 0,.int .u64 0,.int .u64 0]⟩] (bt 9 128) 8:=by
   intro q7;refine (hA _ _ _ _).2 (WA.step [0,1,2] (.cons ?_ (.cons ?_ (.cons ?_ .nil))))
   ·refine WO.does (zj (hs:=hw1) (hb:=h4')) ?_;exact WA.go hA (hS129 q7)
   ·refine WO.does (zj (hs:=hw2) (hb:=h8')) ?_;exact WA.go hA (hS130 q7)
   ·refine Tw ?_;exact WA.go hA (hS132 q7)
  have hS0:A [(0,.int .u8 (k:Int)),(1,pt g4),(2,pt g8),(4,pt gO)] [⟨gR,95,vs++[z]⟩,⟨gO,24,[.int .u64 0,.int .u64 0,.int .u64 0,.int .u64 0]⟩] (bt 9 0) 9:=by
   refine (hA _ _ _ _).2 (WA.step [0,1,2,7] (.cons ?_ (.cons ?_ (.cons ?_ (.cons ?_ .nil)))))
   ·refine WO.does (zj (hs:=hw1) (hb:=h4')) ?_;exact WA.go hA (hS1)
   ·refine WO.does (zj (hs:=hw2) (hb:=h8')) ?_;exact WA.go hA (hS2)
   ·refine Tw ?_;exact WA.go hA (hS4)
   ·(refine WO.autoM (k:=?_);intro q7);exact WA.go hA (hS128 q7)
  exact (hA _ _ _ _).2 (WA.less _ _ ((hA _ _ _ _).1 hS0))
 intro q3 q4 q7;refine (hA _ _ _ _).2 (WA.done ?_);have hGL:=gQ O q7 0 hlt houtl
 repeat (first|refine Ta ?_|(refine Tm ?_;intro _)|refine WO.does (vP rfl) ?_|refine WO.acallR (hc:=hGL) (hR:=fun w1 hm=>Hs.sg hm) (k:=?_)|refine Tc ?_|exact Tz)
 exact WX.retI (abF rfl ud) Hs.a ⟨_,rfl⟩
end Sx
end
end Go.Proofs.YteibfbjpkjkejaaGreatDoor
