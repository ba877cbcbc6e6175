/- Part 23 of the proof: ShM -/
import Derived.Test.YtmhligfnchegdaaGreatDoorM22
import Derived.Test.YtmhligfnchegdaaGreatDoorM21
import Derived.Test.YtmhligfnchegdaaGreatDoorM18
set_option linter.unusedSimpArgs false
set_option linter.unusedVariables false
namespace Go.Proofs.YtmhligfnchegdaaGreatDoor
open Go Go.RowKit Go.BigFrame
namespace Sx
attribute [local irreducible] DQ DQS WO WC WX
def RdB (v:Value) (X:List Nat) (B:Nat) (w:World):Prop :=
  ∃ p c,v=.slice p X.length c∧X.length≤c∧c<9223372036854775808∧((p=none∧X=[])∨∃ b o,p=some ⟨b,o,none⟩∧b<B∧Seg w b o (byC X))
theorem RdB.mod {v:Value} {X:List Nat} {B:Nat} {w w' : World} {gs:List Nat} (h:RdB v X B w) (hm:Mod gs w w') (hg:∀ g∈gs,B≤g):RdB v X B w':=by
  obtain⟨p,c,rfl,h1,h2,h3⟩:=h
  refine⟨p,c,rfl,h1,h2,h3.imp id (fun ⟨b,o,e,hb,hs⟩=>⟨b,o,e,hb,hs.mod hm (fun hbg=>by have:=hg b hbg;omega)⟩)⟩
theorem RdB.rdP {v:Value} {X:List Nat} {B:Nat} {w:World} (h:RdB v X B w) (hB:B≤w.heap.size):RdP v X w:=by
  obtain⟨p,c,rfl,h1,h2,h3⟩:=h
  exact⟨p,c,rfl,h1,h2,h3.imp id (fun ⟨b,o,e,hb,hs⟩=>⟨b,o,e,by omega,hs⟩)⟩
def PartsB (vs:List Value) (Ps:List (List Nat)) (B:Nat) (w:World):Prop:=vs.length=Ps.length∧∀ (i:Nat) (v:Value) (X:List Nat),vs[i]?=some v→Ps[i]?=some X→RdB v X B w
theorem PartsB.mod {vs:List Value} {Ps:List (List Nat)} {B:Nat} {w w' : World} {gs:List Nat} (h:PartsB vs Ps B w) (hm:Mod gs w w') (hg:∀ g∈gs,B≤g):PartsB vs Ps B w':=⟨h.1,fun i v X h1 h2=>(h.2 i v X h1 h2).mod hm hg⟩
theorem PartsB.parts {vs:List Value} {Ps:List (List Nat)} {B:Nat} {w:World} (h:PartsB vs Ps B w) (hB:B≤w.heap.size):Parts vs Ps w:=⟨h.1,fun i v X h1 h2=>(h.2 i v X h1 h2).rdP hB⟩
theorem Parts.partsB {vs:List Value} {Ps:List (List Nat)} {w:World} (h:Parts vs Ps w):PartsB vs Ps w.heap.size w:=h
theorem hOf_len (s:List Nat) (Ps:List (List Nat)):(byC (hOf s Ps)).length=32:=by
  rw[byC_length];unfold hOf Sha.sum;rw[outs_length,takes_len rfl]
theorem hOf_len' (s:List Nat) (Ps:List (List Nat)):(hOf s Ps).length=32:=by
  unfold hOf Sha.sum;rw[outs_length,takes_len rfl]
theorem outs_lt (s:List Nat):∀ x∈Sha.outs s,x<256:=by
  intro x hx
  unfold Sha.outs at hx
  obtain⟨y,_,hy⟩:=List.mem_flatMap.1 hx
  simp only[List.mem_cons,List.not_mem_nil,or_false] at hy
  rcases hy with rfl|rfl|rfl|rfl<;>exact Nat.mod_lt _ (by omega)
theorem hOf_lt (s:List Nat) (Ps:List (List Nat)):∀ x∈hOf s Ps,x<256:=outs_lt _
theorem over_last (vs:List Value) (z y:Value):over (vs++[z]) vs.length [y]=vs++[y]:=by
  unfold over
  rw[List.take_left,List.drop_of_length_le (by simp)];simp
def Last (vs:List Value) (cs:List Value):Prop:=∃ z,cs=vs++[z]
set_option maxHeartbeats 2000000 in
theorem c_half (s:ByteArray) (vs:List Value) (Ps:List (List Nat)) (gR g4 g8 B k:Nat) (hP:∀ X∈Ps,∀ x∈X,x<256) (hk:k<256) (hb:(hBytes (strB s) Ps).length≤1152921504606830000) (hs:s.size≤274877906944) (h4:g4≠gR) (h8:g8≠gR) (hB:B≤gR) (hN:vs.length<1099511627776) :
    FnI Tryz.prog 205 [.int .u8 (k:Int),pt g4,pt g8] gR 84 (Last vs)
      (fun w=>Seg w g4 0 [.string s]∧Seg w g8 0 [.slice (some ⟨gR,0,none⟩) vs.length (vs.length+1)]∧PartsB vs Ps B w) (numV (beV (hOf (strB s) (Ps++[[k]])))):=by
  refine FnI.enter Tryz.func205 rfl rfl rfl ?_
  rintro w cs ⟨z,rfl⟩ ⟨hw1,hw2,hw3⟩
  have hbl:(hBytes (strB s) (Ps++[[k]])).length≤1152921504606840000:=by
    unfold hBytes hHead at hb ⊢
    rw[hBody_snoc]
    simp only[List.length_append,be_length,List.length_cons,List.length_nil] at hb ⊢
    omega
  have hH:=fun g3=>c_hOf s (vs++[.slice (some ⟨g3,0,none⟩) 1 1]) (Ps++[[k]]) gR 0 (vs.length+1) (fun X hX x hx=>by
    rcases List.mem_append.1 hX with hX|hX
    · exact hP X hX x hx
    · simp at hX;subst hX;simp at hx;omega) hbl hs
  simp only[List.length_append,List.length_cons,List.length_nil,Nat.zero_add] at hH
  have hout:=hOf_len (strB s) (Ps++[[k]])
  have houtl:=hOf_len' (strB s) (Ps++[[k]])
  have hlt:=hOf_lt (strB s) (Ps++[[k]])
  have h4' : g4 ∉ [gR]:=by simpa using h4
  have h8' : g8 ∉ [gR]:=by simpa using h8
  generalize hO:hOf (strB s) (Ps++[[k]])=O at *
  repeat (first|refine Ta ?_|(refine Tm ?_;intro _)|refine Tc ?_|exact Tz)
  rename_i gO
  refine WC.allA (fun A hA=>?_)
  suffices hS511:∀ q3 q4 q7,A [(8,.string s),(9,.slice (some ⟨gR,0,none⟩) vs.length (vs.length+1)),(10,.int .u8 (k:Int)),(11,.slice (some ⟨q3,0,none⟩) 1 1),(12,.slice (some ⟨q4,0,none⟩) 1 1),(13,.slice (some ⟨gR,0,none⟩) (vs.length+1) (vs.length+1)),(14,.agg (byC O).toArray),(5,pt q7),(0,.int .u8 (k:Int)),(1,pt g4),(2,pt g8),(4,pt gO)] [⟨q3,5,[.int .u8 (k:Int)]⟩,⟨q4,84,[.slice (some ⟨q3,0,none⟩) 1 1]⟩,⟨q7,82,byC O⟩,⟨gR,84,vs++[.slice (some ⟨q3,0,none⟩) 1 1]⟩,⟨gO,24,[.int .u64 0,.int .u64 0,.int .u64 0,.int .u64 0]⟩] [true,true,true,true,true,true,true,true,true] 0 by
    have hS255:∀ q3 q4 q7,A [(8,.string s),(9,.slice (some ⟨gR,0,none⟩) vs.length (vs.length+1)),(10,.int .u8 (k:Int)),(11,.slice (some ⟨q3,0,none⟩) 1 1),(12,.slice (some ⟨q4,0,none⟩) 1 1),(13,.slice (some ⟨gR,0,none⟩) (vs.length+1) (vs.length+1)),(14,.agg (byC O).toArray),(5,pt q7),(0,.int .u8 (k:Int)),(1,pt g4),(2,pt g8),(4,pt gO)] [⟨q3,5,[.int .u8 (k:Int)]⟩,⟨q4,84,[.slice (some ⟨q3,0,none⟩) 1 1]⟩,⟨q7,82,List.replicate 32 (.int .u8 0)⟩,⟨gR,84,vs++[.slice (some ⟨q3,0,none⟩) 1 1]⟩,⟨gO,24,[.int .u64 0,.int .u64 0,.int .u64 0,.int .u64 0]⟩] [true,true,true,true,true,true,true,true,false] 1:=by
      intro q3 q4 q7
      refine (hA _ _ _ _).2 (WA.step [8] ?_)
      refine Each.cons ?_ ?_
      · refine WO.stores (a_store (vs:=byC O) (cs':=byC O) (hl:=hout) (h1:=byC_one _) (hc:=over_all (by rw[hout];rfl)) (hle:=by rw[hout];rfl)) ?_
        refine WO.nil (WX.wa ?_)
        exact WA.less _ _ ((hA _ _ _ _).1 (hS511 q3 q4 q7))
      exact Each.nil
    have hS127:∀ q3 q4,A [(8,.string s),(9,.slice (some ⟨gR,0,none⟩) vs.length (vs.length+1)),(10,.int .u8 (k:Int)),(11,.slice (some ⟨q3,0,none⟩) 1 1),(12,.slice (some ⟨q4,0,none⟩) 1 1),(13,.slice (some ⟨gR,0,none⟩) (vs.length+1) (vs.length+1)),(14,.agg (byC O).toArray),(0,.int .u8 (k:Int)),(1,pt g4),(2,pt g8),(4,pt gO)] [⟨q3,5,[.int .u8 (k:Int)]⟩,⟨q4,84,[.slice (some ⟨q3,0,none⟩) 1 1]⟩,⟨gR,84,vs++[.slice (some ⟨q3,0,none⟩) 1 1]⟩,⟨gO,24,[.int .u64 0,.int .u64 0,.int .u64 0,.int .u64 0]⟩] [true,true,true,true,true,true,true,false,false] 2:=by
      intro q3 q4
      refine (hA _ _ _ _).2 (WA.step [7] ?_)
      refine Each.cons ?_ ?_
      · (refine WO.autoM (k:=?_);intro q7)
        refine WO.nil (WX.wa ?_)
        exact WA.less _ _ ((hA _ _ _ _).1 (hS255 q3 q4 q7))
      exact Each.nil
    have hS191:∀ q3 q4 q7,A [(8,.string s),(9,.slice (some ⟨gR,0,none⟩) vs.length (vs.length+1)),(10,.int .u8 (k:Int)),(11,.slice (some ⟨q3,0,none⟩) 1 1),(12,.slice (some ⟨q4,0,none⟩) 1 1),(13,.slice (some ⟨gR,0,none⟩) (vs.length+1) (vs.length+1)),(5,pt q7),(0,.int .u8 (k:Int)),(1,pt g4),(2,pt g8),(4,pt gO)] [⟨q3,5,[.int .u8 (k:Int)]⟩,⟨q4,84,[.slice (some ⟨q3,0,none⟩) 1 1]⟩,⟨q7,82,List.replicate 32 (.int .u8 0)⟩,⟨gR,84,vs++[.slice (some ⟨q3,0,none⟩) 1 1]⟩,⟨gO,24,[.int .u64 0,.int .u64 0,.int .u64 0,.int .u64 0]⟩] [true,true,true,true,true,true,false,true,false] 2:=by
      intro q3 q4 q7
      refine (hA _ _ _ _).2 (WA.step [6] ?_)
      refine Each.cons ?_ ?_
      · refine WO.acallR (hc:=hH q3) (hR:=fun w1 hm=>⟨Hs.seg (by repeat (first|exact Hs.here|apply Hs.there)) hm,Parts.snoc (RdP.own0 (g:=q3) (X:=[k]) hm (by repeat (first|exact Hs.here|apply Hs.there)) (by simp) (by omega)) ((hw3.mod hm.mod (by simpa using hB)).parts (by have:=(hm.ok ⟨gR,_,_⟩ (Hs.mem (by repeat (first|exact Hs.here|apply Hs.there)))).lt;simp only at this;omega))⟩) (k:=?_)
        refine WO.nil (WX.wa ?_)
        exact WA.less _ _ ((hA _ _ _ _).1 (hS255 q3 q4 q7))
      exact Each.nil
    have hS63:∀ q3 q4,A [(8,.string s),(9,.slice (some ⟨gR,0,none⟩) vs.length (vs.length+1)),(10,.int .u8 (k:Int)),(11,.slice (some ⟨q3,0,none⟩) 1 1),(12,.slice (some ⟨q4,0,none⟩) 1 1),(13,.slice (some ⟨gR,0,none⟩) (vs.length+1) (vs.length+1)),(0,.int .u8 (k:Int)),(1,pt g4),(2,pt g8),(4,pt gO)] [⟨q3,5,[.int .u8 (k:Int)]⟩,⟨q4,84,[.slice (some ⟨q3,0,none⟩) 1 1]⟩,⟨gR,84,vs++[.slice (some ⟨q3,0,none⟩) 1 1]⟩,⟨gO,24,[.int .u64 0,.int .u64 0,.int .u64 0,.int .u64 0]⟩] [true,true,true,true,true,true,false,false,false] 3:=by
      intro q3 q4
      refine (hA _ _ _ _).2 (WA.step [6,7] ?_)
      refine Each.cons ?_ ?_
      · refine WO.acallR (hc:=hH q3) (hR:=fun w1 hm=>⟨Hs.seg (by repeat (first|exact Hs.here|apply Hs.there)) hm,Parts.snoc (RdP.own0 (g:=q3) (X:=[k]) hm (by repeat (first|exact Hs.here|apply Hs.there)) (by simp) (by omega)) ((hw3.mod hm.mod (by simpa using hB)).parts (by have:=(hm.ok ⟨gR,_,_⟩ (Hs.mem (by repeat (first|exact Hs.here|apply Hs.there)))).lt;simp only at this;omega))⟩) (k:=?_)
        refine WO.nil (WX.wa ?_)
        exact WA.less _ _ ((hA _ _ _ _).1 (hS127 q3 q4))
      refine Each.cons ?_ ?_
      · (refine WO.autoM (k:=?_);intro q7)
        refine WO.nil (WX.wa ?_)
        exact WA.less _ _ ((hA _ _ _ _).1 (hS191 q3 q4 q7))
      exact Each.nil
    have hS159:∀ q3 q4 q7,A [(8,.string s),(9,.slice (some ⟨gR,0,none⟩) vs.length (vs.length+1)),(10,.int .u8 (k:Int)),(11,.slice (some ⟨q3,0,none⟩) 1 1),(12,.slice (some ⟨q4,0,none⟩) 1 1),(5,pt q7),(0,.int .u8 (k:Int)),(1,pt g4),(2,pt g8),(4,pt gO)] [⟨q3,5,[.int .u8 (k:Int)]⟩,⟨q4,84,[.slice (some ⟨q3,0,none⟩) 1 1]⟩,⟨q7,82,List.replicate 32 (.int .u8 0)⟩,⟨gR,84,vs++[z]⟩,⟨gO,24,[.int .u64 0,.int .u64 0,.int .u64 0,.int .u64 0]⟩] [true,true,true,true,true,false,false,true,false] 3:=by
      intro q3 q4 q7
      refine (hA _ _ _ _).2 (WA.step [5] ?_)
      refine Each.cons ?_ ?_
      · refine WO.both (app_in (n:=1) (xs:=[.slice (some ⟨q3,0,none⟩) 1 1]) rfl rfl (Rds.own (g:=q4) (m:=1) (by repeat (first|exact Hs.here|apply Hs.there)) rfl) rfl (by omega) rfl (by repeat (first|exact Rp.here|apply Rp.there)) (over_last vs z _) (by simp) (by decide) rfl) ?_
        refine WO.nil (WX.wa ?_)
        exact WA.less _ _ ((hA _ _ _ _).1 (hS191 q3 q4 q7))
      exact Each.nil
    have hS190:∀ q3 q4 q7,A [(9,.slice (some ⟨gR,0,none⟩) vs.length (vs.length+1)),(10,.int .u8 (k:Int)),(11,.slice (some ⟨q3,0,none⟩) 1 1),(12,.slice (some ⟨q4,0,none⟩) 1 1),(13,.slice (some ⟨gR,0,none⟩) (vs.length+1) (vs.length+1)),(5,pt q7),(0,.int .u8 (k:Int)),(1,pt g4),(2,pt g8),(4,pt gO)] [⟨q3,5,[.int .u8 (k:Int)]⟩,⟨q4,84,[.slice (some ⟨q3,0,none⟩) 1 1]⟩,⟨q7,82,List.replicate 32 (.int .u8 0)⟩,⟨gR,84,vs++[.slice (some ⟨q3,0,none⟩) 1 1]⟩,⟨gO,24,[.int .u64 0,.int .u64 0,.int .u64 0,.int .u64 0]⟩] [false,true,true,true,true,true,false,true,false] 3:=by
      intro q3 q4 q7
      refine (hA _ _ _ _).2 (WA.step [0] ?_)
      refine Each.cons ?_ ?_
      · refine WO.does (a_loadF1 (hs:=hw1) (hb:=h4')) ?_
        refine WO.nil (WX.wa ?_)
        exact WA.less _ _ ((hA _ _ _ _).1 (hS191 q3 q4 q7))
      exact Each.nil
    have hS31:∀ q3 q4,A [(8,.string s),(9,.slice (some ⟨gR,0,none⟩) vs.length (vs.length+1)),(10,.int .u8 (k:Int)),(11,.slice (some ⟨q3,0,none⟩) 1 1),(12,.slice (some ⟨q4,0,none⟩) 1 1),(0,.int .u8 (k:Int)),(1,pt g4),(2,pt g8),(4,pt gO)] [⟨q3,5,[.int .u8 (k:Int)]⟩,⟨q4,84,[.slice (some ⟨q3,0,none⟩) 1 1]⟩,⟨gR,84,vs++[z]⟩,⟨gO,24,[.int .u64 0,.int .u64 0,.int .u64 0,.int .u64 0]⟩] [true,true,true,true,true,false,false,false,false] 4:=by
      intro q3 q4
      refine (hA _ _ _ _).2 (WA.step [5,7] ?_)
      refine Each.cons ?_ ?_
      · refine WO.both (app_in (n:=1) (xs:=[.slice (some ⟨q3,0,none⟩) 1 1]) rfl rfl (Rds.own (g:=q4) (m:=1) (by repeat (first|exact Hs.here|apply Hs.there)) rfl) rfl (by omega) rfl (by repeat (first|exact Rp.here|apply Rp.there)) (over_last vs z _) (by simp) (by decide) rfl) ?_
        refine WO.nil (WX.wa ?_)
        exact WA.less _ _ ((hA _ _ _ _).1 (hS63 q3 q4))
      refine Each.cons ?_ ?_
      · (refine WO.autoM (k:=?_);intro q7)
        refine WO.nil (WX.wa ?_)
        exact WA.less _ _ ((hA _ _ _ _).1 (hS159 q3 q4 q7))
      exact Each.nil
    have hS143:∀ q3 q7,A [(8,.string s),(9,.slice (some ⟨gR,0,none⟩) vs.length (vs.length+1)),(10,.int .u8 (k:Int)),(11,.slice (some ⟨q3,0,none⟩) 1 1),(5,pt q7),(0,.int .u8 (k:Int)),(1,pt g4),(2,pt g8),(4,pt gO)] [⟨q3,5,[.int .u8 (k:Int)]⟩,⟨q7,82,List.replicate 32 (.int .u8 0)⟩,⟨gR,84,vs++[z]⟩,⟨gO,24,[.int .u64 0,.int .u64 0,.int .u64 0,.int .u64 0]⟩] [true,true,true,true,false,false,false,true,false] 4:=by
      intro q3 q7
      refine (hA _ _ _ _).2 (WA.step [4] ?_)
      refine Each.cons ?_ ?_
      · (refine WO.makes (makes_build (cs:=[.slice (some ⟨q3,0,none⟩) 1 1]) rfl (by decide) rfl) ?_;intro q4)
        refine WO.nil (WX.wa ?_)
        exact WA.less _ _ ((hA _ _ _ _).1 (hS159 q3 q4 q7))
      exact Each.nil
    have hS157:∀ q3 q4 q7,A [(8,.string s),(10,.int .u8 (k:Int)),(11,.slice (some ⟨q3,0,none⟩) 1 1),(12,.slice (some ⟨q4,0,none⟩) 1 1),(5,pt q7),(0,.int .u8 (k:Int)),(1,pt g4),(2,pt g8),(4,pt gO)] [⟨q3,5,[.int .u8 (k:Int)]⟩,⟨q4,84,[.slice (some ⟨q3,0,none⟩) 1 1]⟩,⟨q7,82,List.replicate 32 (.int .u8 0)⟩,⟨gR,84,vs++[z]⟩,⟨gO,24,[.int .u64 0,.int .u64 0,.int .u64 0,.int .u64 0]⟩] [true,false,true,true,true,false,false,true,false] 4:=by
      intro q3 q4 q7
      refine (hA _ _ _ _).2 (WA.step [1] ?_)
      refine Each.cons ?_ ?_
      · refine WO.does (a_loadF1 (hs:=hw2) (hb:=h8')) ?_
        refine WO.nil (WX.wa ?_)
        exact WA.less _ _ ((hA _ _ _ _).1 (hS159 q3 q4 q7))
      exact Each.nil
    have hS62:∀ q3 q4,A [(9,.slice (some ⟨gR,0,none⟩) vs.length (vs.length+1)),(10,.int .u8 (k:Int)),(11,.slice (some ⟨q3,0,none⟩) 1 1),(12,.slice (some ⟨q4,0,none⟩) 1 1),(13,.slice (some ⟨gR,0,none⟩) (vs.length+1) (vs.length+1)),(0,.int .u8 (k:Int)),(1,pt g4),(2,pt g8),(4,pt gO)] [⟨q3,5,[.int .u8 (k:Int)]⟩,⟨q4,84,[.slice (some ⟨q3,0,none⟩) 1 1]⟩,⟨gR,84,vs++[.slice (some ⟨q3,0,none⟩) 1 1]⟩,⟨gO,24,[.int .u64 0,.int .u64 0,.int .u64 0,.int .u64 0]⟩] [false,true,true,true,true,true,false,false,false] 4:=by
      intro q3 q4
      refine (hA _ _ _ _).2 (WA.step [0,7] ?_)
      refine Each.cons ?_ ?_
      · refine WO.does (a_loadF1 (hs:=hw1) (hb:=h4')) ?_
        refine WO.nil (WX.wa ?_)
        exact WA.less _ _ ((hA _ _ _ _).1 (hS63 q3 q4))
      refine Each.cons ?_ ?_
      · (refine WO.autoM (k:=?_);intro q7)
        refine WO.nil (WX.wa ?_)
        exact WA.less _ _ ((hA _ _ _ _).1 (hS190 q3 q4 q7))
      exact Each.nil
    have hS158:∀ q3 q4 q7,A [(9,.slice (some ⟨gR,0,none⟩) vs.length (vs.length+1)),(10,.int .u8 (k:Int)),(11,.slice (some ⟨q3,0,none⟩) 1 1),(12,.slice (some ⟨q4,0,none⟩) 1 1),(5,pt q7),(0,.int .u8 (k:Int)),(1,pt g4),(2,pt g8),(4,pt gO)] [⟨q3,5,[.int .u8 (k:Int)]⟩,⟨q4,84,[.slice (some ⟨q3,0,none⟩) 1 1]⟩,⟨q7,82,List.replicate 32 (.int .u8 0)⟩,⟨gR,84,vs++[z]⟩,⟨gO,24,[.int .u64 0,.int .u64 0,.int .u64 0,.int .u64 0]⟩] [false,true,true,true,true,false,false,true,false] 4:=by
      intro q3 q4 q7
      refine (hA _ _ _ _).2 (WA.step [0,5] ?_)
      refine Each.cons ?_ ?_
      · refine WO.does (a_loadF1 (hs:=hw1) (hb:=h4')) ?_
        refine WO.nil (WX.wa ?_)
        exact WA.less _ _ ((hA _ _ _ _).1 (hS159 q3 q4 q7))
      refine Each.cons ?_ ?_
      · refine WO.both (app_in (n:=1) (xs:=[.slice (some ⟨q3,0,none⟩) 1 1]) rfl rfl (Rds.own (g:=q4) (m:=1) (by repeat (first|exact Hs.here|apply Hs.there)) rfl) rfl (by omega) rfl (by repeat (first|exact Rp.here|apply Rp.there)) (over_last vs z _) (by simp) (by decide) rfl) ?_
        refine WO.nil (WX.wa ?_)
        exact WA.less _ _ ((hA _ _ _ _).1 (hS190 q3 q4 q7))
      exact Each.nil
    have hS15:∀ q3,A [(8,.string s),(9,.slice (some ⟨gR,0,none⟩) vs.length (vs.length+1)),(10,.int .u8 (k:Int)),(11,.slice (some ⟨q3,0,none⟩) 1 1),(0,.int .u8 (k:Int)),(1,pt g4),(2,pt g8),(4,pt gO)] [⟨q3,5,[.int .u8 (k:Int)]⟩,⟨gR,84,vs++[z]⟩,⟨gO,24,[.int .u64 0,.int .u64 0,.int .u64 0,.int .u64 0]⟩] [true,true,true,true,false,false,false,false,false] 5:=by
      intro q3
      refine (hA _ _ _ _).2 (WA.step [4,7] ?_)
      refine Each.cons ?_ ?_
      · (refine WO.makes (makes_build (cs:=[.slice (some ⟨q3,0,none⟩) 1 1]) rfl (by decide) rfl) ?_;intro q4)
        refine WO.nil (WX.wa ?_)
        exact WA.less _ _ ((hA _ _ _ _).1 (hS31 q3 q4))
      refine Each.cons ?_ ?_
      · (refine WO.autoM (k:=?_);intro q7)
        refine WO.nil (WX.wa ?_)
        exact WA.less _ _ ((hA _ _ _ _).1 (hS143 q3 q7))
      exact Each.nil
    have hS135:∀ q7,A [(8,.string s),(9,.slice (some ⟨gR,0,none⟩) vs.length (vs.length+1)),(10,.int .u8 (k:Int)),(5,pt q7),(0,.int .u8 (k:Int)),(1,pt g4),(2,pt g8),(4,pt gO)] [⟨q7,82,List.replicate 32 (.int .u8 0)⟩,⟨gR,84,vs++[z]⟩,⟨gO,24,[.int .u64 0,.int .u64 0,.int .u64 0,.int .u64 0]⟩] [true,true,true,false,false,false,false,true,false] 5:=by
      intro q7
      refine (hA _ _ _ _).2 (WA.step [3] ?_)
      refine Each.cons ?_ ?_
      · (refine WO.makes (makes_build (cs:=[.int .u8 (k:Int)]) rfl (by decide) rfl) ?_;intro q3)
        refine WO.nil (WX.wa ?_)
        exact WA.less _ _ ((hA _ _ _ _).1 (hS143 q3 q7))
      exact Each.nil
    have hS29:∀ q3 q4,A [(8,.string s),(10,.int .u8 (k:Int)),(11,.slice (some ⟨q3,0,none⟩) 1 1),(12,.slice (some ⟨q4,0,none⟩) 1 1),(0,.int .u8 (k:Int)),(1,pt g4),(2,pt g8),(4,pt gO)] [⟨q3,5,[.int .u8 (k:Int)]⟩,⟨q4,84,[.slice (some ⟨q3,0,none⟩) 1 1]⟩,⟨gR,84,vs++[z]⟩,⟨gO,24,[.int .u64 0,.int .u64 0,.int .u64 0,.int .u64 0]⟩] [true,false,true,true,true,false,false,false,false] 5:=by
      intro q3 q4
      refine (hA _ _ _ _).2 (WA.step [1,7] ?_)
      refine Each.cons ?_ ?_
      · refine WO.does (a_loadF1 (hs:=hw2) (hb:=h8')) ?_
        refine WO.nil (WX.wa ?_)
        exact WA.less _ _ ((hA _ _ _ _).1 (hS31 q3 q4))
      refine Each.cons ?_ ?_
      · (refine WO.autoM (k:=?_);intro q7)
        refine WO.nil (WX.wa ?_)
        exact WA.less _ _ ((hA _ _ _ _).1 (hS157 q3 q4 q7))
      exact Each.nil
    have hS141:∀ q3 q7,A [(8,.string s),(10,.int .u8 (k:Int)),(11,.slice (some ⟨q3,0,none⟩) 1 1),(5,pt q7),(0,.int .u8 (k:Int)),(1,pt g4),(2,pt g8),(4,pt gO)] [⟨q3,5,[.int .u8 (k:Int)]⟩,⟨q7,82,List.replicate 32 (.int .u8 0)⟩,⟨gR,84,vs++[z]⟩,⟨gO,24,[.int .u64 0,.int .u64 0,.int .u64 0,.int .u64 0]⟩] [true,false,true,true,false,false,false,true,false] 5:=by
      intro q3 q7
      refine (hA _ _ _ _).2 (WA.step [1,4] ?_)
      refine Each.cons ?_ ?_
      · refine WO.does (a_loadF1 (hs:=hw2) (hb:=h8')) ?_
        refine WO.nil (WX.wa ?_)
        exact WA.less _ _ ((hA _ _ _ _).1 (hS143 q3 q7))
      refine Each.cons ?_ ?_
      · (refine WO.makes (makes_build (cs:=[.slice (some ⟨q3,0,none⟩) 1 1]) rfl (by decide) rfl) ?_;intro q4)
        refine WO.nil (WX.wa ?_)
        exact WA.less _ _ ((hA _ _ _ _).1 (hS157 q3 q4 q7))
      exact Each.nil
    have hS30:∀ q3 q4,A [(9,.slice (some ⟨gR,0,none⟩) vs.length (vs.length+1)),(10,.int .u8 (k:Int)),(11,.slice (some ⟨q3,0,none⟩) 1 1),(12,.slice (some ⟨q4,0,none⟩) 1 1),(0,.int .u8 (k:Int)),(1,pt g4),(2,pt g8),(4,pt gO)] [⟨q3,5,[.int .u8 (k:Int)]⟩,⟨q4,84,[.slice (some ⟨q3,0,none⟩) 1 1]⟩,⟨gR,84,vs++[z]⟩,⟨gO,24,[.int .u64 0,.int .u64 0,.int .u64 0,.int .u64 0]⟩] [false,true,true,true,true,false,false,false,false] 5:=by
      intro q3 q4
      refine (hA _ _ _ _).2 (WA.step [0,5,7] ?_)
      refine Each.cons ?_ ?_
      · refine WO.does (a_loadF1 (hs:=hw1) (hb:=h4')) ?_
        refine WO.nil (WX.wa ?_)
        exact WA.less _ _ ((hA _ _ _ _).1 (hS31 q3 q4))
      refine Each.cons ?_ ?_
      · refine WO.both (app_in (n:=1) (xs:=[.slice (some ⟨q3,0,none⟩) 1 1]) rfl rfl (Rds.own (g:=q4) (m:=1) (by repeat (first|exact Hs.here|apply Hs.there)) rfl) rfl (by omega) rfl (by repeat (first|exact Rp.here|apply Rp.there)) (over_last vs z _) (by simp) (by decide) rfl) ?_
        refine WO.nil (WX.wa ?_)
        exact WA.less _ _ ((hA _ _ _ _).1 (hS62 q3 q4))
      refine Each.cons ?_ ?_
      · (refine WO.autoM (k:=?_);intro q7)
        refine WO.nil (WX.wa ?_)
        exact WA.less _ _ ((hA _ _ _ _).1 (hS158 q3 q4 q7))
      exact Each.nil
    have hS142:∀ q3 q7,A [(9,.slice (some ⟨gR,0,none⟩) vs.length (vs.length+1)),(10,.int .u8 (k:Int)),(11,.slice (some ⟨q3,0,none⟩) 1 1),(5,pt q7),(0,.int .u8 (k:Int)),(1,pt g4),(2,pt g8),(4,pt gO)] [⟨q3,5,[.int .u8 (k:Int)]⟩,⟨q7,82,List.replicate 32 (.int .u8 0)⟩,⟨gR,84,vs++[z]⟩,⟨gO,24,[.int .u64 0,.int .u64 0,.int .u64 0,.int .u64 0]⟩] [false,true,true,true,false,false,false,true,false] 5:=by
      intro q3 q7
      refine (hA _ _ _ _).2 (WA.step [0,4] ?_)
      refine Each.cons ?_ ?_
      · refine WO.does (a_loadF1 (hs:=hw1) (hb:=h4')) ?_
        refine WO.nil (WX.wa ?_)
        exact WA.less _ _ ((hA _ _ _ _).1 (hS143 q3 q7))
      refine Each.cons ?_ ?_
      · (refine WO.makes (makes_build (cs:=[.slice (some ⟨q3,0,none⟩) 1 1]) rfl (by decide) rfl) ?_;intro q4)
        refine WO.nil (WX.wa ?_)
        exact WA.less _ _ ((hA _ _ _ _).1 (hS158 q3 q4 q7))
      exact Each.nil
    have hS156:∀ q3 q4 q7,A [(10,.int .u8 (k:Int)),(11,.slice (some ⟨q3,0,none⟩) 1 1),(12,.slice (some ⟨q4,0,none⟩) 1 1),(5,pt q7),(0,.int .u8 (k:Int)),(1,pt g4),(2,pt g8),(4,pt gO)] [⟨q3,5,[.int .u8 (k:Int)]⟩,⟨q4,84,[.slice (some ⟨q3,0,none⟩) 1 1]⟩,⟨q7,82,List.replicate 32 (.int .u8 0)⟩,⟨gR,84,vs++[z]⟩,⟨gO,24,[.int .u64 0,.int .u64 0,.int .u64 0,.int .u64 0]⟩] [false,false,true,true,true,false,false,true,false] 5:=by
      intro q3 q4 q7
      refine (hA _ _ _ _).2 (WA.step [0,1] ?_)
      refine Each.cons ?_ ?_
      · refine WO.does (a_loadF1 (hs:=hw1) (hb:=h4')) ?_
        refine WO.nil (WX.wa ?_)
        exact WA.less _ _ ((hA _ _ _ _).1 (hS157 q3 q4 q7))
      refine Each.cons ?_ ?_
      · refine WO.does (a_loadF1 (hs:=hw2) (hb:=h8')) ?_
        refine WO.nil (WX.wa ?_)
        exact WA.less _ _ ((hA _ _ _ _).1 (hS158 q3 q4 q7))
      exact Each.nil
    have hS7:A [(8,.string s),(9,.slice (some ⟨gR,0,none⟩) vs.length (vs.length+1)),(10,.int .u8 (k:Int)),(0,.int .u8 (k:Int)),(1,pt g4),(2,pt g8),(4,pt gO)] [⟨gR,84,vs++[z]⟩,⟨gO,24,[.int .u64 0,.int .u64 0,.int .u64 0,.int .u64 0]⟩] [true,true,true,false,false,false,false,false,false] 6:=by
      refine (hA _ _ _ _).2 (WA.step [3,7] ?_)
      refine Each.cons ?_ ?_
      · (refine WO.makes (makes_build (cs:=[.int .u8 (k:Int)]) rfl (by decide) rfl) ?_;intro q3)
        refine WO.nil (WX.wa ?_)
        exact WA.less _ _ ((hA _ _ _ _).1 (hS15 q3))
      refine Each.cons ?_ ?_
      · (refine WO.autoM (k:=?_);intro q7)
        refine WO.nil (WX.wa ?_)
        exact WA.less _ _ ((hA _ _ _ _).1 (hS135 q7))
      exact Each.nil
    have hS131:∀ q7,A [(8,.string s),(9,.slice (some ⟨gR,0,none⟩) vs.length (vs.length+1)),(5,pt q7),(0,.int .u8 (k:Int)),(1,pt g4),(2,pt g8),(4,pt gO)] [⟨q7,82,List.replicate 32 (.int .u8 0)⟩,⟨gR,84,vs++[z]⟩,⟨gO,24,[.int .u64 0,.int .u64 0,.int .u64 0,.int .u64 0]⟩] [true,true,false,false,false,false,false,true,false] 6:=by
      intro q7
      refine (hA _ _ _ _).2 (WA.step [2] ?_)
      refine Each.cons ?_ ?_
      · first|refine Ta ?_|(refine Tm ?_;intro _)|refine Tc ?_
        refine WO.nil (WX.wa ?_)
        exact WA.less _ _ ((hA _ _ _ _).1 (hS135 q7))
      exact Each.nil
    have hS13:∀ q3,A [(8,.string s),(10,.int .u8 (k:Int)),(11,.slice (some ⟨q3,0,none⟩) 1 1),(0,.int .u8 (k:Int)),(1,pt g4),(2,pt g8),(4,pt gO)] [⟨q3,5,[.int .u8 (k:Int)]⟩,⟨gR,84,vs++[z]⟩,⟨gO,24,[.int .u64 0,.int .u64 0,.int .u64 0,.int .u64 0]⟩] [true,false,true,true,false,false,false,false,false] 6:=by
      intro q3
      refine (hA _ _ _ _).2 (WA.step [1,4,7] ?_)
      refine Each.cons ?_ ?_
      · refine WO.does (a_loadF1 (hs:=hw2) (hb:=h8')) ?_
        refine WO.nil (WX.wa ?_)
        exact WA.less _ _ ((hA _ _ _ _).1 (hS15 q3))
      refine Each.cons ?_ ?_
      · (refine WO.makes (makes_build (cs:=[.slice (some ⟨q3,0,none⟩) 1 1]) rfl (by decide) rfl) ?_;intro q4)
        refine WO.nil (WX.wa ?_)
        exact WA.less _ _ ((hA _ _ _ _).1 (hS29 q3 q4))
      refine Each.cons ?_ ?_
      · (refine WO.autoM (k:=?_);intro q7)
        refine WO.nil (WX.wa ?_)
        exact WA.less _ _ ((hA _ _ _ _).1 (hS141 q3 q7))
      exact Each.nil
    have hS133:∀ q7,A [(8,.string s),(10,.int .u8 (k:Int)),(5,pt q7),(0,.int .u8 (k:Int)),(1,pt g4),(2,pt g8),(4,pt gO)] [⟨q7,82,List.replicate 32 (.int .u8 0)⟩,⟨gR,84,vs++[z]⟩,⟨gO,24,[.int .u64 0,.int .u64 0,.int .u64 0,.int .u64 0]⟩] [true,false,true,false,false,false,false,true,false] 6:=by
      intro q7
      refine (hA _ _ _ _).2 (WA.step [1,3] ?_)
      refine Each.cons ?_ ?_
      · refine WO.does (a_loadF1 (hs:=hw2) (hb:=h8')) ?_
        refine WO.nil (WX.wa ?_)
        exact WA.less _ _ ((hA _ _ _ _).1 (hS135 q7))
      refine Each.cons ?_ ?_
      · (refine WO.makes (makes_build (cs:=[.int .u8 (k:Int)]) rfl (by decide) rfl) ?_;intro q3)
        refine WO.nil (WX.wa ?_)
        exact WA.less _ _ ((hA _ _ _ _).1 (hS141 q3 q7))
      exact Each.nil
    have hS14:∀ q3,A [(9,.slice (some ⟨gR,0,none⟩) vs.length (vs.length+1)),(10,.int .u8 (k:Int)),(11,.slice (some ⟨q3,0,none⟩) 1 1),(0,.int .u8 (k:Int)),(1,pt g4),(2,pt g8),(4,pt gO)] [⟨q3,5,[.int .u8 (k:Int)]⟩,⟨gR,84,vs++[z]⟩,⟨gO,24,[.int .u64 0,.int .u64 0,.int .u64 0,.int .u64 0]⟩] [false,true,true,true,false,false,false,false,false] 6:=by
      intro q3
      refine (hA _ _ _ _).2 (WA.step [0,4,7] ?_)
      refine Each.cons ?_ ?_
      · refine WO.does (a_loadF1 (hs:=hw1) (hb:=h4')) ?_
        refine WO.nil (WX.wa ?_)
        exact WA.less _ _ ((hA _ _ _ _).1 (hS15 q3))
      refine Each.cons ?_ ?_
      · (refine WO.makes (makes_build (cs:=[.slice (some ⟨q3,0,none⟩) 1 1]) rfl (by decide) rfl) ?_;intro q4)
        refine WO.nil (WX.wa ?_)
        exact WA.less _ _ ((hA _ _ _ _).1 (hS30 q3 q4))
      refine Each.cons ?_ ?_
      · (refine WO.autoM (k:=?_);intro q7)
        refine WO.nil (WX.wa ?_)
        exact WA.less _ _ ((hA _ _ _ _).1 (hS142 q3 q7))
      exact Each.nil
    have hS134:∀ q7,A [(9,.slice (some ⟨gR,0,none⟩) vs.length (vs.length+1)),(10,.int .u8 (k:Int)),(5,pt q7),(0,.int .u8 (k:Int)),(1,pt g4),(2,pt g8),(4,pt gO)] [⟨q7,82,List.replicate 32 (.int .u8 0)⟩,⟨gR,84,vs++[z]⟩,⟨gO,24,[.int .u64 0,.int .u64 0,.int .u64 0,.int .u64 0]⟩] [false,true,true,false,false,false,false,true,false] 6:=by
      intro q7
      refine (hA _ _ _ _).2 (WA.step [0,3] ?_)
      refine Each.cons ?_ ?_
      · refine WO.does (a_loadF1 (hs:=hw1) (hb:=h4')) ?_
        refine WO.nil (WX.wa ?_)
        exact WA.less _ _ ((hA _ _ _ _).1 (hS135 q7))
      refine Each.cons ?_ ?_
      · (refine WO.makes (makes_build (cs:=[.int .u8 (k:Int)]) rfl (by decide) rfl) ?_;intro q3)
        refine WO.nil (WX.wa ?_)
        exact WA.less _ _ ((hA _ _ _ _).1 (hS142 q3 q7))
      exact Each.nil
    have hS28:∀ q3 q4,A [(10,.int .u8 (k:Int)),(11,.slice (some ⟨q3,0,none⟩) 1 1),(12,.slice (some ⟨q4,0,none⟩) 1 1),(0,.int .u8 (k:Int)),(1,pt g4),(2,pt g8),(4,pt gO)] [⟨q3,5,[.int .u8 (k:Int)]⟩,⟨q4,84,[.slice (some ⟨q3,0,none⟩) 1 1]⟩,⟨gR,84,vs++[z]⟩,⟨gO,24,[.int .u64 0,.int .u64 0,.int .u64 0,.int .u64 0]⟩] [false,false,true,true,true,false,false,false,false] 6:=by
      intro q3 q4
      refine (hA _ _ _ _).2 (WA.step [0,1,7] ?_)
      refine Each.cons ?_ ?_
      · refine WO.does (a_loadF1 (hs:=hw1) (hb:=h4')) ?_
        refine WO.nil (WX.wa ?_)
        exact WA.less _ _ ((hA _ _ _ _).1 (hS29 q3 q4))
      refine Each.cons ?_ ?_
      · refine WO.does (a_loadF1 (hs:=hw2) (hb:=h8')) ?_
        refine WO.nil (WX.wa ?_)
        exact WA.less _ _ ((hA _ _ _ _).1 (hS30 q3 q4))
      refine Each.cons ?_ ?_
      · (refine WO.autoM (k:=?_);intro q7)
        refine WO.nil (WX.wa ?_)
        exact WA.less _ _ ((hA _ _ _ _).1 (hS156 q3 q4 q7))
      exact Each.nil
    have hS140:∀ q3 q7,A [(10,.int .u8 (k:Int)),(11,.slice (some ⟨q3,0,none⟩) 1 1),(5,pt q7),(0,.int .u8 (k:Int)),(1,pt g4),(2,pt g8),(4,pt gO)] [⟨q3,5,[.int .u8 (k:Int)]⟩,⟨q7,82,List.replicate 32 (.int .u8 0)⟩,⟨gR,84,vs++[z]⟩,⟨gO,24,[.int .u64 0,.int .u64 0,.int .u64 0,.int .u64 0]⟩] [false,false,true,true,false,false,false,true,false] 6:=by
      intro q3 q7
      refine (hA _ _ _ _).2 (WA.step [0,1,4] ?_)
      refine Each.cons ?_ ?_
      · refine WO.does (a_loadF1 (hs:=hw1) (hb:=h4')) ?_
        refine WO.nil (WX.wa ?_)
        exact WA.less _ _ ((hA _ _ _ _).1 (hS141 q3 q7))
      refine Each.cons ?_ ?_
      · refine WO.does (a_loadF1 (hs:=hw2) (hb:=h8')) ?_
        refine WO.nil (WX.wa ?_)
        exact WA.less _ _ ((hA _ _ _ _).1 (hS142 q3 q7))
      refine Each.cons ?_ ?_
      · (refine WO.makes (makes_build (cs:=[.slice (some ⟨q3,0,none⟩) 1 1]) rfl (by decide) rfl) ?_;intro q4)
        refine WO.nil (WX.wa ?_)
        exact WA.less _ _ ((hA _ _ _ _).1 (hS156 q3 q4 q7))
      exact Each.nil
    have hS3:A [(8,.string s),(9,.slice (some ⟨gR,0,none⟩) vs.length (vs.length+1)),(0,.int .u8 (k:Int)),(1,pt g4),(2,pt g8),(4,pt gO)] [⟨gR,84,vs++[z]⟩,⟨gO,24,[.int .u64 0,.int .u64 0,.int .u64 0,.int .u64 0]⟩] [true,true,false,false,false,false,false,false,false] 7:=by
      refine (hA _ _ _ _).2 (WA.step [2,7] ?_)
      refine Each.cons ?_ ?_
      · first|refine Ta ?_|(refine Tm ?_;intro _)|refine Tc ?_
        refine WO.nil (WX.wa ?_)
        exact WA.less _ _ ((hA _ _ _ _).1 (hS7))
      refine Each.cons ?_ ?_
      · (refine WO.autoM (k:=?_);intro q7)
        refine WO.nil (WX.wa ?_)
        exact WA.less _ _ ((hA _ _ _ _).1 (hS131 q7))
      exact Each.nil
    have hS5:A [(8,.string s),(10,.int .u8 (k:Int)),(0,.int .u8 (k:Int)),(1,pt g4),(2,pt g8),(4,pt gO)] [⟨gR,84,vs++[z]⟩,⟨gO,24,[.int .u64 0,.int .u64 0,.int .u64 0,.int .u64 0]⟩] [true,false,true,false,false,false,false,false,false] 7:=by
      refine (hA _ _ _ _).2 (WA.step [1,3,7] ?_)
      refine Each.cons ?_ ?_
      · refine WO.does (a_loadF1 (hs:=hw2) (hb:=h8')) ?_
        refine WO.nil (WX.wa ?_)
        exact WA.less _ _ ((hA _ _ _ _).1 (hS7))
      refine Each.cons ?_ ?_
      · (refine WO.makes (makes_build (cs:=[.int .u8 (k:Int)]) rfl (by decide) rfl) ?_;intro q3)
        refine WO.nil (WX.wa ?_)
        exact WA.less _ _ ((hA _ _ _ _).1 (hS13 q3))
      refine Each.cons ?_ ?_
      · (refine WO.autoM (k:=?_);intro q7)
        refine WO.nil (WX.wa ?_)
        exact WA.less _ _ ((hA _ _ _ _).1 (hS133 q7))
      exact Each.nil
    have hS129:∀ q7,A [(8,.string s),(5,pt q7),(0,.int .u8 (k:Int)),(1,pt g4),(2,pt g8),(4,pt gO)] [⟨q7,82,List.replicate 32 (.int .u8 0)⟩,⟨gR,84,vs++[z]⟩,⟨gO,24,[.int .u64 0,.int .u64 0,.int .u64 0,.int .u64 0]⟩] [true,false,false,false,false,false,false,true,false] 7:=by
      intro q7
      refine (hA _ _ _ _).2 (WA.step [1,2] ?_)
      refine Each.cons ?_ ?_
      · refine WO.does (a_loadF1 (hs:=hw2) (hb:=h8')) ?_
        refine WO.nil (WX.wa ?_)
        exact WA.less _ _ ((hA _ _ _ _).1 (hS131 q7))
      refine Each.cons ?_ ?_
      · first|refine Ta ?_|(refine Tm ?_;intro _)|refine Tc ?_
        refine WO.nil (WX.wa ?_)
        exact WA.less _ _ ((hA _ _ _ _).1 (hS133 q7))
      exact Each.nil
    have hS6:A [(9,.slice (some ⟨gR,0,none⟩) vs.length (vs.length+1)),(10,.int .u8 (k:Int)),(0,.int .u8 (k:Int)),(1,pt g4),(2,pt g8),(4,pt gO)] [⟨gR,84,vs++[z]⟩,⟨gO,24,[.int .u64 0,.int .u64 0,.int .u64 0,.int .u64 0]⟩] [false,true,true,false,false,false,false,false,false] 7:=by
      refine (hA _ _ _ _).2 (WA.step [0,3,7] ?_)
      refine Each.cons ?_ ?_
      · refine WO.does (a_loadF1 (hs:=hw1) (hb:=h4')) ?_
        refine WO.nil (WX.wa ?_)
        exact WA.less _ _ ((hA _ _ _ _).1 (hS7))
      refine Each.cons ?_ ?_
      · (refine WO.makes (makes_build (cs:=[.int .u8 (k:Int)]) rfl (by decide) rfl) ?_;intro q3)
        refine WO.nil (WX.wa ?_)
        exact WA.less _ _ ((hA _ _ _ _).1 (hS14 q3))
      refine Each.cons ?_ ?_
      · (refine WO.autoM (k:=?_);intro q7)
        refine WO.nil (WX.wa ?_)
        exact WA.less _ _ ((hA _ _ _ _).1 (hS134 q7))
      exact Each.nil
    have hS130:∀ q7,A [(9,.slice (some ⟨gR,0,none⟩) vs.length (vs.length+1)),(5,pt q7),(0,.int .u8 (k:Int)),(1,pt g4),(2,pt g8),(4,pt gO)] [⟨q7,82,List.replicate 32 (.int .u8 0)⟩,⟨gR,84,vs++[z]⟩,⟨gO,24,[.int .u64 0,.int .u64 0,.int .u64 0,.int .u64 0]⟩] [false,true,false,false,false,false,false,true,false] 7:=by
      intro q7
      refine (hA _ _ _ _).2 (WA.step [0,2] ?_)
      refine Each.cons ?_ ?_
      · refine WO.does (a_loadF1 (hs:=hw1) (hb:=h4')) ?_
        refine WO.nil (WX.wa ?_)
        exact WA.less _ _ ((hA _ _ _ _).1 (hS131 q7))
      refine Each.cons ?_ ?_
      · first|refine Ta ?_|(refine Tm ?_;intro _)|refine Tc ?_
        refine WO.nil (WX.wa ?_)
        exact WA.less _ _ ((hA _ _ _ _).1 (hS134 q7))
      exact Each.nil
    have hS12:∀ q3,A [(10,.int .u8 (k:Int)),(11,.slice (some ⟨q3,0,none⟩) 1 1),(0,.int .u8 (k:Int)),(1,pt g4),(2,pt g8),(4,pt gO)] [⟨q3,5,[.int .u8 (k:Int)]⟩,⟨gR,84,vs++[z]⟩,⟨gO,24,[.int .u64 0,.int .u64 0,.int .u64 0,.int .u64 0]⟩] [false,false,true,true,false,false,false,false,false] 7:=by
      intro q3
      refine (hA _ _ _ _).2 (WA.step [0,1,4,7] ?_)
      refine Each.cons ?_ ?_
      · refine WO.does (a_loadF1 (hs:=hw1) (hb:=h4')) ?_
        refine WO.nil (WX.wa ?_)
        exact WA.less _ _ ((hA _ _ _ _).1 (hS13 q3))
      refine Each.cons ?_ ?_
      · refine WO.does (a_loadF1 (hs:=hw2) (hb:=h8')) ?_
        refine WO.nil (WX.wa ?_)
        exact WA.less _ _ ((hA _ _ _ _).1 (hS14 q3))
      refine Each.cons ?_ ?_
      · (refine WO.makes (makes_build (cs:=[.slice (some ⟨q3,0,none⟩) 1 1]) rfl (by decide) rfl) ?_;intro q4)
        refine WO.nil (WX.wa ?_)
        exact WA.less _ _ ((hA _ _ _ _).1 (hS28 q3 q4))
      refine Each.cons ?_ ?_
      · (refine WO.autoM (k:=?_);intro q7)
        refine WO.nil (WX.wa ?_)
        exact WA.less _ _ ((hA _ _ _ _).1 (hS140 q3 q7))
      exact Each.nil
    have hS132:∀ q7,A [(10,.int .u8 (k:Int)),(5,pt q7),(0,.int .u8 (k:Int)),(1,pt g4),(2,pt g8),(4,pt gO)] [⟨q7,82,List.replicate 32 (.int .u8 0)⟩,⟨gR,84,vs++[z]⟩,⟨gO,24,[.int .u64 0,.int .u64 0,.int .u64 0,.int .u64 0]⟩] [false,false,true,false,false,false,false,true,false] 7:=by
      intro q7
      refine (hA _ _ _ _).2 (WA.step [0,1,3] ?_)
      refine Each.cons ?_ ?_
      · refine WO.does (a_loadF1 (hs:=hw1) (hb:=h4')) ?_
        refine WO.nil (WX.wa ?_)
        exact WA.less _ _ ((hA _ _ _ _).1 (hS133 q7))
      refine Each.cons ?_ ?_
      · refine WO.does (a_loadF1 (hs:=hw2) (hb:=h8')) ?_
        refine WO.nil (WX.wa ?_)
        exact WA.less _ _ ((hA _ _ _ _).1 (hS134 q7))
      refine Each.cons ?_ ?_
      · (refine WO.makes (makes_build (cs:=[.int .u8 (k:Int)]) rfl (by decide) rfl) ?_;intro q3)
        refine WO.nil (WX.wa ?_)
        exact WA.less _ _ ((hA _ _ _ _).1 (hS140 q3 q7))
      exact Each.nil
    have hS1:A [(8,.string s),(0,.int .u8 (k:Int)),(1,pt g4),(2,pt g8),(4,pt gO)] [⟨gR,84,vs++[z]⟩,⟨gO,24,[.int .u64 0,.int .u64 0,.int .u64 0,.int .u64 0]⟩] [true,false,false,false,false,false,false,false,false] 8:=by
      refine (hA _ _ _ _).2 (WA.step [1,2,7] ?_)
      refine Each.cons ?_ ?_
      · refine WO.does (a_loadF1 (hs:=hw2) (hb:=h8')) ?_
        refine WO.nil (WX.wa ?_)
        exact WA.less _ _ ((hA _ _ _ _).1 (hS3))
      refine Each.cons ?_ ?_
      · first|refine Ta ?_|(refine Tm ?_;intro _)|refine Tc ?_
        refine WO.nil (WX.wa ?_)
        exact WA.less _ _ ((hA _ _ _ _).1 (hS5))
      refine Each.cons ?_ ?_
      · (refine WO.autoM (k:=?_);intro q7)
        refine WO.nil (WX.wa ?_)
        exact WA.less _ _ ((hA _ _ _ _).1 (hS129 q7))
      exact Each.nil
    have hS2:A [(9,.slice (some ⟨gR,0,none⟩) vs.length (vs.length+1)),(0,.int .u8 (k:Int)),(1,pt g4),(2,pt g8),(4,pt gO)] [⟨gR,84,vs++[z]⟩,⟨gO,24,[.int .u64 0,.int .u64 0,.int .u64 0,.int .u64 0]⟩] [false,true,false,false,false,false,false,false,false] 8:=by
      refine (hA _ _ _ _).2 (WA.step [0,2,7] ?_)
      refine Each.cons ?_ ?_
      · refine WO.does (a_loadF1 (hs:=hw1) (hb:=h4')) ?_
        refine WO.nil (WX.wa ?_)
        exact WA.less _ _ ((hA _ _ _ _).1 (hS3))
      refine Each.cons ?_ ?_
      · first|refine Ta ?_|(refine Tm ?_;intro _)|refine Tc ?_
        refine WO.nil (WX.wa ?_)
        exact WA.less _ _ ((hA _ _ _ _).1 (hS6))
      refine Each.cons ?_ ?_
      · (refine WO.autoM (k:=?_);intro q7)
        refine WO.nil (WX.wa ?_)
        exact WA.less _ _ ((hA _ _ _ _).1 (hS130 q7))
      exact Each.nil
    have hS4:A [(10,.int .u8 (k:Int)),(0,.int .u8 (k:Int)),(1,pt g4),(2,pt g8),(4,pt gO)] [⟨gR,84,vs++[z]⟩,⟨gO,24,[.int .u64 0,.int .u64 0,.int .u64 0,.int .u64 0]⟩] [false,false,true,false,false,false,false,false,false] 8:=by
      refine (hA _ _ _ _).2 (WA.step [0,1,3,7] ?_)
      refine Each.cons ?_ ?_
      · refine WO.does (a_loadF1 (hs:=hw1) (hb:=h4')) ?_
        refine WO.nil (WX.wa ?_)
        exact WA.less _ _ ((hA _ _ _ _).1 (hS5))
      refine Each.cons ?_ ?_
      · refine WO.does (a_loadF1 (hs:=hw2) (hb:=h8')) ?_
        refine WO.nil (WX.wa ?_)
        exact WA.less _ _ ((hA _ _ _ _).1 (hS6))
      refine Each.cons ?_ ?_
      · (refine WO.makes (makes_build (cs:=[.int .u8 (k:Int)]) rfl (by decide) rfl) ?_;intro q3)
        refine WO.nil (WX.wa ?_)
        exact WA.less _ _ ((hA _ _ _ _).1 (hS12 q3))
      refine Each.cons ?_ ?_
      · (refine WO.autoM (k:=?_);intro q7)
        refine WO.nil (WX.wa ?_)
        exact WA.less _ _ ((hA _ _ _ _).1 (hS132 q7))
      exact Each.nil
    have hS128:∀ q7,A [(5,pt q7),(0,.int .u8 (k:Int)),(1,pt g4),(2,pt g8),(4,pt gO)] [⟨q7,82,List.replicate 32 (.int .u8 0)⟩,⟨gR,84,vs++[z]⟩,⟨gO,24,[.int .u64 0,.int .u64 0,.int .u64 0,.int .u64 0]⟩] [false,false,false,false,false,false,false,true,false] 8:=by
      intro q7
      refine (hA _ _ _ _).2 (WA.step [0,1,2] ?_)
      refine Each.cons ?_ ?_
      · refine WO.does (a_loadF1 (hs:=hw1) (hb:=h4')) ?_
        refine WO.nil (WX.wa ?_)
        exact WA.less _ _ ((hA _ _ _ _).1 (hS129 q7))
      refine Each.cons ?_ ?_
      · refine WO.does (a_loadF1 (hs:=hw2) (hb:=h8')) ?_
        refine WO.nil (WX.wa ?_)
        exact WA.less _ _ ((hA _ _ _ _).1 (hS130 q7))
      refine Each.cons ?_ ?_
      · first|refine Ta ?_|(refine Tm ?_;intro _)|refine Tc ?_
        refine WO.nil (WX.wa ?_)
        exact WA.less _ _ ((hA _ _ _ _).1 (hS132 q7))
      exact Each.nil
    have hS0:A [(0,.int .u8 (k:Int)),(1,pt g4),(2,pt g8),(4,pt gO)] [⟨gR,84,vs++[z]⟩,⟨gO,24,[.int .u64 0,.int .u64 0,.int .u64 0,.int .u64 0]⟩] [false,false,false,false,false,false,false,false,false] 9:=by
      refine (hA _ _ _ _).2 (WA.step [0,1,2,7] ?_)
      refine Each.cons ?_ ?_
      · refine WO.does (a_loadF1 (hs:=hw1) (hb:=h4')) ?_
        refine WO.nil (WX.wa ?_)
        exact WA.less _ _ ((hA _ _ _ _).1 (hS1))
      refine Each.cons ?_ ?_
      · refine WO.does (a_loadF1 (hs:=hw2) (hb:=h8')) ?_
        refine WO.nil (WX.wa ?_)
        exact WA.less _ _ ((hA _ _ _ _).1 (hS2))
      refine Each.cons ?_ ?_
      · first|refine Ta ?_|(refine Tm ?_;intro _)|refine Tc ?_
        refine WO.nil (WX.wa ?_)
        exact WA.less _ _ ((hA _ _ _ _).1 (hS4))
      refine Each.cons ?_ ?_
      · (refine WO.autoM (k:=?_);intro q7)
        refine WO.nil (WX.wa ?_)
        exact WA.less _ _ ((hA _ _ _ _).1 (hS128 q7))
      exact Each.nil
    exact (hA _ _ _ _).2 (WA.less _ _ ((hA _ _ _ _).1 hS0))
  intro q3 q4 q7
  refine (hA _ _ _ _).2 (WA.done ?_)
  have hGL:=c_GetLong O q7 0 hlt houtl
  repeat (first|refine Ta ?_|(refine Tm ?_;intro _)|refine WO.does (does_sliceA rfl) ?_|refine WO.acallR (hc:=hGL) (hR:=fun w1 hm=>Hs.seg (by repeat (first|exact Hs.here|apply Hs.there)) hm) (k:=?_)|refine Tc ?_|exact Tz)
  exact WX.retI (res1 rfl a_rvc) (by repeat (first|exact Hs.here|apply Hs.there)) ⟨_,rfl⟩
end Sx
end Go.Proofs.YtmhligfnchegdaaGreatDoor
