/- Part 24 of the proof: ShN, PrA, PrB -/
import Derived.Test.YtmhligfnchegdaaGreatDoorM23
import Derived.Test.YtmhligfnchegdaaGreatDoorM19
import Derived.Test.YtmhligfnchegdaaGreatDoorM21
import Derived.Test.YtmhligfnchegdaaGreatDoorM17
set_option linter.unusedSimpArgs false
set_option linter.unusedVariables false
namespace Go.Proofs.YtmhligfnchegdaaGreatDoor
open Go Go.RowKit Go.BigFrame
namespace Sx
attribute [local irreducible] wd DQ DQS WO WC WX
def hNum (m:Nat) (s:List Nat) (Ps:List (List Nat)):Nat:=(beV (hOf s (Ps++[[0]]))*B256+beV (hOf s (Ps++[[1]])))%m
theorem hOf_B (s:List Nat) (Ps:List (List Nat)):beV (hOf s Ps)<B256:=by
  have:=beV_lt (hOf_lt s Ps)
  rw[hOf_len'] at this
  exact Nat.lt_of_lt_of_eq this (by decide)
theorem over_copy (vs:List Value) (z:Value):over (mkz (vs.length+1) [z]) 0 vs=vs++[z]:=by
  rw[mkz_one]
  unfold over
  rw[List.take_zero,List.nil_append,Nat.zero_add,List.drop_replicate,show vs.length+1 - vs.length=1 by omega];rfl
theorem Parts.one {vs:List Value} {Ps:List (List Nat)} {w:World} (h:Parts vs Ps w):vs.all Value.oneCell'=true:=by
  rw[List.all_eq_true]
  intro v hv
  obtain⟨i,hi,rfl⟩:=List.getElem_of_mem hv
  have h1:=h.1
  obtain⟨p,c,e,_⟩:=h.2 i _ _ (List.getElem?_eq_getElem hi) (List.getElem?_eq_getElem (show i<Ps.length by omega))
  rw[e];rfl
set_option maxHeartbeats 2000000 in
theorem c_Number (m:Nat) (s:ByteArray) (vs:List Value) (Ps:List (List Nat)) (B O C:Nat) (hm:m<B256) (h0:0<m) (hP:∀ X∈Ps,∀ x∈X,x<256) (hb:(hBytes (strB s) Ps).length≤1099511627776) (hs:s.size≤274877906944) :
    Fn Tryz.prog 122 [numV m,.string s,.slice (some ⟨B,O,none⟩) vs.length C] (fun w=>Seg w B O vs∧Parts vs Ps w) (Is (.tuple #[numV (hNum m (strB s) Ps),.int .i64 0])):=by
  refine Fn.enter Tryz.func122 rfl rfl rfl ?_
  intro w hw
  obtain⟨hw1,hw2⟩:=hw
  have hN:=hw2.1
  have hNs:Ps.length*4≤(hBody Ps).length:=by
    clear hb hw2 hN hP
    induction Ps with
    | nil=>simp
    | cons X Ps ih=>simp only[hBody,List.flatMap_cons,List.length_append,List.length_cons,be_length] at ih ⊢;omega
  have hNb:vs.length<1099511627776:=by unfold hBytes at hb;rw[List.length_append] at hb;omega
  have hv1:=hw2.one
  have hN1:IntKind.i64.wrap (((vs.length:Nat):Int)+1)=((vs.length+1:Nat):Int):=i64_in' (by omega) (by omega) (by omega)
  repeat (first|refine WO.does (does_add rfl rfl hN1) ?_|refine Ta ?_|(refine Tm ?_;intro _)|(refine WO.makes (makes_slice (l:=vs.length) (c:=vs.length+1) rfl rfl (by omega) (by omega) (by omega)) ?_;intro gR)|refine WO.both (both_copy (st:=113) rfl rfl rfl (Rds.seg (n:=vs.length) hw1 (Nat.le_refl _) (by simp) (m:=vs.length) (xs:=vs) (by unfold cut;rw[Nat.sub_self,List.drop_zero,List.take_length])) (by rw[Nat.mul_one]) (m:=vs.length) (Nat.min_self _) (ys:=vs) (by rw[Nat.mul_one,List.take_length]) hv1 (by repeat (first|exact Rp.here|apply Rp.there)) (over_copy vs _) (by rw[mkz_length];simp) (by decide)) ?_|refine Tc ?_|exact Tz)
  rename_i g3 g4 g6 g8
  refine WC.ndp' (fun hnd=>?_)
  have h4:g4≠gR:=by simp at hnd;omega
  have h8:g8≠gR:=by simp at hnd;omega
  clear hnd
  refine WC.mine (fun hmn=>?_)
  have hB:w.heap.size≤gR:=(hmn _ (List.mem_cons_of_mem _ (List.mem_cons_self ..))).resolve_right (by simp)
  clear hmn
  have hF:=fun k (hk:k<256)=>c_half s vs Ps gR g4 g8 w.heap.size k hP hk (by omega) hs h4 h8 hB (by omega)
  have hF1:=hF 1 (by decide)
  have hF0:=hF 0 (by decide)
  have hW:=c_Wide _ _ m (hOf_B (strB s) (Ps++[[1]])) (hOf_B (strB s) (Ps++[[0]])) hm h0
  have hres:hNum m (strB s) Ps=(beV (hOf (strB s) (Ps++[[0]]))*B256+beV (hOf (strB s) (Ps++[[1]])))%m:=rfl
  rw[hres]
  clear hres hF
  generalize (beV (hOf (strB s) (Ps++[[0]]))*B256+beV (hOf (strB s) (Ps++[[1]])))%m=X at *
  generalize beV (hOf (strB s) (Ps++[[0]]))=x0 at *
  generalize beV (hOf (strB s) (Ps++[[1]]))=x1 at *
  refine WC.allA (fun A hA=>?_)
  suffices hS1023:∀ z3,A [(20,.func (.func 205) #[] #[pt g4,pt g8]),(21,numV x1),(22,.func (.func 205) #[] #[pt g4,pt g8]),(23,numV x0),(24,numV m),(25,.tuple #[numV X,.int .i64 0]),(26,numV X),(27,.int .i64 0),(7,.int .i64 0),(3,pt g3),(6,pt g6),(9,.func (.func 205) #[] #[pt g4,pt g8])] [⟨gR,84,vs++[z3]⟩,⟨g8,113,[.slice (some ⟨gR,0,none⟩) vs.length (vs.length+1)]⟩,⟨g6,24,numC X⟩,⟨g4,9,[.string s]⟩,⟨g3,24,numC m⟩] [true,true,true,true,true,true,true,true,true,true] 0 by
    have hS511:∀ z3,A [(20,.func (.func 205) #[] #[pt g4,pt g8]),(21,numV x1),(22,.func (.func 205) #[] #[pt g4,pt g8]),(23,numV x0),(24,numV m),(25,.tuple #[numV X,.int .i64 0]),(26,numV X),(27,.int .i64 0),(3,pt g3),(6,pt g6),(9,.func (.func 205) #[] #[pt g4,pt g8])] [⟨gR,84,vs++[z3]⟩,⟨g8,113,[.slice (some ⟨gR,0,none⟩) vs.length (vs.length+1)]⟩,⟨g6,24,numC X⟩,⟨g4,9,[.string s]⟩,⟨g3,24,numC m⟩] [true,true,true,true,true,true,true,true,true,false] 1:=by
      intro z3
      refine (hA _ _ _ _).2 (WA.step [9] ?_)
      refine Each.cons ?_ ?_
      · first|refine Ta ?_|(refine Tm ?_;intro _)|refine Tc ?_
        refine WO.nil (WX.wa ?_)
        exact WA.less _ _ ((hA _ _ _ _).1 (hS1023 z3))
      exact Each.nil
    have hS255:∀ z3,A [(20,.func (.func 205) #[] #[pt g4,pt g8]),(21,numV x1),(22,.func (.func 205) #[] #[pt g4,pt g8]),(23,numV x0),(24,numV m),(25,.tuple #[numV X,.int .i64 0]),(26,numV X),(27,.int .i64 0),(3,pt g3),(6,pt g6),(9,.func (.func 205) #[] #[pt g4,pt g8])] [⟨gR,84,vs++[z3]⟩,⟨g8,113,[.slice (some ⟨gR,0,none⟩) vs.length (vs.length+1)]⟩,⟨g6,24,numC 0⟩,⟨g4,9,[.string s]⟩,⟨g3,24,numC m⟩] [true,true,true,true,true,true,true,true,false,false] 2:=by
      intro z3
      refine (hA _ _ _ _).2 (WA.step [8] ?_)
      refine Each.cons ?_ ?_
      · first|refine Ta ?_|(refine Tm ?_;intro _)|refine Tc ?_
        refine WO.nil (WX.wa ?_)
        exact WA.less _ _ ((hA _ _ _ _).1 (hS511 z3))
      exact Each.nil
    have hS127:∀ z3,A [(20,.func (.func 205) #[] #[pt g4,pt g8]),(21,numV x1),(22,.func (.func 205) #[] #[pt g4,pt g8]),(23,numV x0),(24,numV m),(25,.tuple #[numV X,.int .i64 0]),(26,numV X),(3,pt g3),(6,pt g6),(9,.func (.func 205) #[] #[pt g4,pt g8])] [⟨gR,84,vs++[z3]⟩,⟨g8,113,[.slice (some ⟨gR,0,none⟩) vs.length (vs.length+1)]⟩,⟨g6,24,numC 0⟩,⟨g4,9,[.string s]⟩,⟨g3,24,numC m⟩] [true,true,true,true,true,true,true,false,false,false] 3:=by
      intro z3
      refine (hA _ _ _ _).2 (WA.step [7] ?_)
      refine Each.cons ?_ ?_
      · first|refine Ta ?_|(refine Tm ?_;intro _)|refine Tc ?_
        refine WO.nil (WX.wa ?_)
        exact WA.less _ _ ((hA _ _ _ _).1 (hS255 z3))
      exact Each.nil
    have hS191:∀ z3,A [(20,.func (.func 205) #[] #[pt g4,pt g8]),(21,numV x1),(22,.func (.func 205) #[] #[pt g4,pt g8]),(23,numV x0),(24,numV m),(25,.tuple #[numV X,.int .i64 0]),(27,.int .i64 0),(3,pt g3),(6,pt g6),(9,.func (.func 205) #[] #[pt g4,pt g8])] [⟨gR,84,vs++[z3]⟩,⟨g8,113,[.slice (some ⟨gR,0,none⟩) vs.length (vs.length+1)]⟩,⟨g6,24,numC 0⟩,⟨g4,9,[.string s]⟩,⟨g3,24,numC m⟩] [true,true,true,true,true,true,false,true,false,false] 3:=by
      intro z3
      refine (hA _ _ _ _).2 (WA.step [6] ?_)
      refine Each.cons ?_ ?_
      · first|refine Ta ?_|(refine Tm ?_;intro _)|refine Tc ?_
        refine WO.nil (WX.wa ?_)
        exact WA.less _ _ ((hA _ _ _ _).1 (hS255 z3))
      exact Each.nil
    have hS63:∀ z3,A [(20,.func (.func 205) #[] #[pt g4,pt g8]),(21,numV x1),(22,.func (.func 205) #[] #[pt g4,pt g8]),(23,numV x0),(24,numV m),(25,.tuple #[numV X,.int .i64 0]),(3,pt g3),(6,pt g6),(9,.func (.func 205) #[] #[pt g4,pt g8])] [⟨gR,84,vs++[z3]⟩,⟨g8,113,[.slice (some ⟨gR,0,none⟩) vs.length (vs.length+1)]⟩,⟨g6,24,numC 0⟩,⟨g4,9,[.string s]⟩,⟨g3,24,numC m⟩] [true,true,true,true,true,true,false,false,false,false] 4:=by
      intro z3
      refine (hA _ _ _ _).2 (WA.step [6,7] ?_)
      refine Each.cons ?_ ?_
      · first|refine Ta ?_|(refine Tm ?_;intro _)|refine Tc ?_
        refine WO.nil (WX.wa ?_)
        exact WA.less _ _ ((hA _ _ _ _).1 (hS127 z3))
      refine Each.cons ?_ ?_
      · first|refine Ta ?_|(refine Tm ?_;intro _)|refine Tc ?_
        refine WO.nil (WX.wa ?_)
        exact WA.less _ _ ((hA _ _ _ _).1 (hS191 z3))
      exact Each.nil
    have hS31:∀ z3,A [(20,.func (.func 205) #[] #[pt g4,pt g8]),(21,numV x1),(22,.func (.func 205) #[] #[pt g4,pt g8]),(23,numV x0),(24,numV m),(3,pt g3),(6,pt g6),(9,.func (.func 205) #[] #[pt g4,pt g8])] [⟨gR,84,vs++[z3]⟩,⟨g8,113,[.slice (some ⟨gR,0,none⟩) vs.length (vs.length+1)]⟩,⟨g6,24,numC 0⟩,⟨g4,9,[.string s]⟩,⟨g3,24,numC m⟩] [true,true,true,true,true,false,false,false,false,false] 5:=by
      intro z3
      refine (hA _ _ _ _).2 (WA.step [5] ?_)
      refine Each.cons ?_ ?_
      · refine WO.acall (hc:=hW) (k:=?_)
        refine WO.nil (WX.wa ?_)
        exact WA.less _ _ ((hA _ _ _ _).1 (hS63 z3))
      exact Each.nil
    have hS15:∀ z3,A [(20,.func (.func 205) #[] #[pt g4,pt g8]),(21,numV x1),(22,.func (.func 205) #[] #[pt g4,pt g8]),(23,numV x0),(3,pt g3),(6,pt g6),(9,.func (.func 205) #[] #[pt g4,pt g8])] [⟨gR,84,vs++[z3]⟩,⟨g8,113,[.slice (some ⟨gR,0,none⟩) vs.length (vs.length+1)]⟩,⟨g6,24,numC 0⟩,⟨g4,9,[.string s]⟩,⟨g3,24,numC m⟩] [true,true,true,true,false,false,false,false,false,false] 6:=by
      intro z3
      refine (hA _ _ _ _).2 (WA.step [4] ?_)
      refine Each.cons ?_ ?_
      · first|refine Ta ?_|(refine Tm ?_;intro _)|refine Tc ?_
        refine WO.nil (WX.wa ?_)
        exact WA.less _ _ ((hA _ _ _ _).1 (hS31 z3))
      exact Each.nil
    have hS23:∀ z1,A [(20,.func (.func 205) #[] #[pt g4,pt g8]),(21,numV x1),(22,.func (.func 205) #[] #[pt g4,pt g8]),(24,numV m),(3,pt g3),(6,pt g6),(9,.func (.func 205) #[] #[pt g4,pt g8])] [⟨gR,84,vs++[z1]⟩,⟨g8,113,[.slice (some ⟨gR,0,none⟩) vs.length (vs.length+1)]⟩,⟨g6,24,numC 0⟩,⟨g4,9,[.string s]⟩,⟨g3,24,numC m⟩] [true,true,true,false,true,false,false,false,false,false] 6:=by
      intro z1
      refine (hA _ _ _ _).2 (WA.step [3] ?_)
      refine Each.cons ?_ ?_
      · (refine WO.callI (fs:=[]) (ks:=[pt g4,pt g8]) hF0 rfl rfl rfl (by repeat (first|exact Pk.here|apply Pk.there)) ⟨_,rfl⟩ (fun w1 hm=>⟨Hs.seg (by repeat (first|exact Hs.here|apply Hs.there)) hm.mr,Hs.seg (by repeat (first|exact Hs.here|apply Hs.there)) hm.mr,hw2.partsB.mod hm.mod (by simp)⟩) (by decide) (fun cs' hC'=>?_) rfl rfl;obtain⟨z3,rfl⟩:=hC')
        refine WO.nil (WX.wa ?_)
        exact WA.less _ _ ((hA _ _ _ _).1 (hS31 z3))
      exact Each.nil
    have hS7:∀ z1,A [(20,.func (.func 205) #[] #[pt g4,pt g8]),(21,numV x1),(22,.func (.func 205) #[] #[pt g4,pt g8]),(3,pt g3),(6,pt g6),(9,.func (.func 205) #[] #[pt g4,pt g8])] [⟨gR,84,vs++[z1]⟩,⟨g8,113,[.slice (some ⟨gR,0,none⟩) vs.length (vs.length+1)]⟩,⟨g6,24,numC 0⟩,⟨g4,9,[.string s]⟩,⟨g3,24,numC m⟩] [true,true,true,false,false,false,false,false,false,false] 7:=by
      intro z1
      refine (hA _ _ _ _).2 (WA.step [3,4] ?_)
      refine Each.cons ?_ ?_
      · (refine WO.callI (fs:=[]) (ks:=[pt g4,pt g8]) hF0 rfl rfl rfl (by repeat (first|exact Pk.here|apply Pk.there)) ⟨_,rfl⟩ (fun w1 hm=>⟨Hs.seg (by repeat (first|exact Hs.here|apply Hs.there)) hm.mr,Hs.seg (by repeat (first|exact Hs.here|apply Hs.there)) hm.mr,hw2.partsB.mod hm.mod (by simp)⟩) (by decide) (fun cs' hC'=>?_) rfl rfl;obtain⟨z3,rfl⟩:=hC')
        refine WO.nil (WX.wa ?_)
        exact WA.less _ _ ((hA _ _ _ _).1 (hS15 z3))
      refine Each.cons ?_ ?_
      · first|refine Ta ?_|(refine Tm ?_;intro _)|refine Tc ?_
        refine WO.nil (WX.wa ?_)
        exact WA.less _ _ ((hA _ _ _ _).1 (hS23 z1))
      exact Each.nil
    have hS19:∀ z1,A [(20,.func (.func 205) #[] #[pt g4,pt g8]),(21,numV x1),(24,numV m),(3,pt g3),(6,pt g6),(9,.func (.func 205) #[] #[pt g4,pt g8])] [⟨gR,84,vs++[z1]⟩,⟨g8,113,[.slice (some ⟨gR,0,none⟩) vs.length (vs.length+1)]⟩,⟨g6,24,numC 0⟩,⟨g4,9,[.string s]⟩,⟨g3,24,numC m⟩] [true,true,false,false,true,false,false,false,false,false] 7:=by
      intro z1
      refine (hA _ _ _ _).2 (WA.step [2] ?_)
      refine Each.cons ?_ ?_
      · first|refine Ta ?_|(refine Tm ?_;intro _)|refine Tc ?_
        refine WO.nil (WX.wa ?_)
        exact WA.less _ _ ((hA _ _ _ _).1 (hS23 z1))
      exact Each.nil
    have hS21:A [(20,.func (.func 205) #[] #[pt g4,pt g8]),(22,.func (.func 205) #[] #[pt g4,pt g8]),(24,numV m),(3,pt g3),(6,pt g6),(9,.func (.func 205) #[] #[pt g4,pt g8])] [⟨gR,84,vs++[.slice none 0 0]⟩,⟨g8,113,[.slice (some ⟨gR,0,none⟩) vs.length (vs.length+1)]⟩,⟨g6,24,numC 0⟩,⟨g4,9,[.string s]⟩,⟨g3,24,numC m⟩] [true,false,true,false,true,false,false,false,false,false] 7:=by
      refine (hA _ _ _ _).2 (WA.step [1] ?_)
      refine Each.cons ?_ ?_
      · (refine WO.callI (fs:=[]) (ks:=[pt g4,pt g8]) hF1 rfl rfl rfl (by repeat (first|exact Pk.here|apply Pk.there)) ⟨_,rfl⟩ (fun w1 hm=>⟨Hs.seg (by repeat (first|exact Hs.here|apply Hs.there)) hm.mr,Hs.seg (by repeat (first|exact Hs.here|apply Hs.there)) hm.mr,hw2.partsB.mod hm.mod (by simp)⟩) (by decide) (fun cs' hC'=>?_) rfl rfl;obtain⟨z1,rfl⟩:=hC')
        refine WO.nil (WX.wa ?_)
        exact WA.less _ _ ((hA _ _ _ _).1 (hS23 z1))
      exact Each.nil
    have hS3:∀ z1,A [(20,.func (.func 205) #[] #[pt g4,pt g8]),(21,numV x1),(3,pt g3),(6,pt g6),(9,.func (.func 205) #[] #[pt g4,pt g8])] [⟨gR,84,vs++[z1]⟩,⟨g8,113,[.slice (some ⟨gR,0,none⟩) vs.length (vs.length+1)]⟩,⟨g6,24,numC 0⟩,⟨g4,9,[.string s]⟩,⟨g3,24,numC m⟩] [true,true,false,false,false,false,false,false,false,false] 8:=by
      intro z1
      refine (hA _ _ _ _).2 (WA.step [2,4] ?_)
      refine Each.cons ?_ ?_
      · first|refine Ta ?_|(refine Tm ?_;intro _)|refine Tc ?_
        refine WO.nil (WX.wa ?_)
        exact WA.less _ _ ((hA _ _ _ _).1 (hS7 z1))
      refine Each.cons ?_ ?_
      · first|refine Ta ?_|(refine Tm ?_;intro _)|refine Tc ?_
        refine WO.nil (WX.wa ?_)
        exact WA.less _ _ ((hA _ _ _ _).1 (hS19 z1))
      exact Each.nil
    have hS5:A [(20,.func (.func 205) #[] #[pt g4,pt g8]),(22,.func (.func 205) #[] #[pt g4,pt g8]),(3,pt g3),(6,pt g6),(9,.func (.func 205) #[] #[pt g4,pt g8])] [⟨gR,84,vs++[.slice none 0 0]⟩,⟨g8,113,[.slice (some ⟨gR,0,none⟩) vs.length (vs.length+1)]⟩,⟨g6,24,numC 0⟩,⟨g4,9,[.string s]⟩,⟨g3,24,numC m⟩] [true,false,true,false,false,false,false,false,false,false] 8:=by
      refine (hA _ _ _ _).2 (WA.step [1,4] ?_)
      refine Each.cons ?_ ?_
      · (refine WO.callI (fs:=[]) (ks:=[pt g4,pt g8]) hF1 rfl rfl rfl (by repeat (first|exact Pk.here|apply Pk.there)) ⟨_,rfl⟩ (fun w1 hm=>⟨Hs.seg (by repeat (first|exact Hs.here|apply Hs.there)) hm.mr,Hs.seg (by repeat (first|exact Hs.here|apply Hs.there)) hm.mr,hw2.partsB.mod hm.mod (by simp)⟩) (by decide) (fun cs' hC'=>?_) rfl rfl;obtain⟨z1,rfl⟩:=hC')
        refine WO.nil (WX.wa ?_)
        exact WA.less _ _ ((hA _ _ _ _).1 (hS7 z1))
      refine Each.cons ?_ ?_
      · first|refine Ta ?_|(refine Tm ?_;intro _)|refine Tc ?_
        refine WO.nil (WX.wa ?_)
        exact WA.less _ _ ((hA _ _ _ _).1 (hS21))
      exact Each.nil
    have hS17:A [(20,.func (.func 205) #[] #[pt g4,pt g8]),(24,numV m),(3,pt g3),(6,pt g6),(9,.func (.func 205) #[] #[pt g4,pt g8])] [⟨gR,84,vs++[.slice none 0 0]⟩,⟨g8,113,[.slice (some ⟨gR,0,none⟩) vs.length (vs.length+1)]⟩,⟨g6,24,numC 0⟩,⟨g4,9,[.string s]⟩,⟨g3,24,numC m⟩] [true,false,false,false,true,false,false,false,false,false] 8:=by
      refine (hA _ _ _ _).2 (WA.step [1,2] ?_)
      refine Each.cons ?_ ?_
      · (refine WO.callI (fs:=[]) (ks:=[pt g4,pt g8]) hF1 rfl rfl rfl (by repeat (first|exact Pk.here|apply Pk.there)) ⟨_,rfl⟩ (fun w1 hm=>⟨Hs.seg (by repeat (first|exact Hs.here|apply Hs.there)) hm.mr,Hs.seg (by repeat (first|exact Hs.here|apply Hs.there)) hm.mr,hw2.partsB.mod hm.mod (by simp)⟩) (by decide) (fun cs' hC'=>?_) rfl rfl;obtain⟨z1,rfl⟩:=hC')
        refine WO.nil (WX.wa ?_)
        exact WA.less _ _ ((hA _ _ _ _).1 (hS19 z1))
      refine Each.cons ?_ ?_
      · first|refine Ta ?_|(refine Tm ?_;intro _)|refine Tc ?_
        refine WO.nil (WX.wa ?_)
        exact WA.less _ _ ((hA _ _ _ _).1 (hS21))
      exact Each.nil
    have hS20:A [(22,.func (.func 205) #[] #[pt g4,pt g8]),(24,numV m),(3,pt g3),(6,pt g6),(9,.func (.func 205) #[] #[pt g4,pt g8])] [⟨gR,84,vs++[.slice none 0 0]⟩,⟨g8,113,[.slice (some ⟨gR,0,none⟩) vs.length (vs.length+1)]⟩,⟨g6,24,numC 0⟩,⟨g4,9,[.string s]⟩,⟨g3,24,numC m⟩] [false,false,true,false,true,false,false,false,false,false] 8:=by
      refine (hA _ _ _ _).2 (WA.step [0] ?_)
      refine Each.cons ?_ ?_
      · first|refine Ta ?_|(refine Tm ?_;intro _)|refine Tc ?_
        refine WO.nil (WX.wa ?_)
        exact WA.less _ _ ((hA _ _ _ _).1 (hS21))
      exact Each.nil
    have hS1:A [(20,.func (.func 205) #[] #[pt g4,pt g8]),(3,pt g3),(6,pt g6),(9,.func (.func 205) #[] #[pt g4,pt g8])] [⟨gR,84,vs++[.slice none 0 0]⟩,⟨g8,113,[.slice (some ⟨gR,0,none⟩) vs.length (vs.length+1)]⟩,⟨g6,24,numC 0⟩,⟨g4,9,[.string s]⟩,⟨g3,24,numC m⟩] [true,false,false,false,false,false,false,false,false,false] 9:=by
      refine (hA _ _ _ _).2 (WA.step [1,2,4] ?_)
      refine Each.cons ?_ ?_
      · (refine WO.callI (fs:=[]) (ks:=[pt g4,pt g8]) hF1 rfl rfl rfl (by repeat (first|exact Pk.here|apply Pk.there)) ⟨_,rfl⟩ (fun w1 hm=>⟨Hs.seg (by repeat (first|exact Hs.here|apply Hs.there)) hm.mr,Hs.seg (by repeat (first|exact Hs.here|apply Hs.there)) hm.mr,hw2.partsB.mod hm.mod (by simp)⟩) (by decide) (fun cs' hC'=>?_) rfl rfl;obtain⟨z1,rfl⟩:=hC')
        refine WO.nil (WX.wa ?_)
        exact WA.less _ _ ((hA _ _ _ _).1 (hS3 z1))
      refine Each.cons ?_ ?_
      · first|refine Ta ?_|(refine Tm ?_;intro _)|refine Tc ?_
        refine WO.nil (WX.wa ?_)
        exact WA.less _ _ ((hA _ _ _ _).1 (hS5))
      refine Each.cons ?_ ?_
      · first|refine Ta ?_|(refine Tm ?_;intro _)|refine Tc ?_
        refine WO.nil (WX.wa ?_)
        exact WA.less _ _ ((hA _ _ _ _).1 (hS17))
      exact Each.nil
    have hS4:A [(22,.func (.func 205) #[] #[pt g4,pt g8]),(3,pt g3),(6,pt g6),(9,.func (.func 205) #[] #[pt g4,pt g8])] [⟨gR,84,vs++[.slice none 0 0]⟩,⟨g8,113,[.slice (some ⟨gR,0,none⟩) vs.length (vs.length+1)]⟩,⟨g6,24,numC 0⟩,⟨g4,9,[.string s]⟩,⟨g3,24,numC m⟩] [false,false,true,false,false,false,false,false,false,false] 9:=by
      refine (hA _ _ _ _).2 (WA.step [0,4] ?_)
      refine Each.cons ?_ ?_
      · first|refine Ta ?_|(refine Tm ?_;intro _)|refine Tc ?_
        refine WO.nil (WX.wa ?_)
        exact WA.less _ _ ((hA _ _ _ _).1 (hS5))
      refine Each.cons ?_ ?_
      · first|refine Ta ?_|(refine Tm ?_;intro _)|refine Tc ?_
        refine WO.nil (WX.wa ?_)
        exact WA.less _ _ ((hA _ _ _ _).1 (hS20))
      exact Each.nil
    have hS16:A [(24,numV m),(3,pt g3),(6,pt g6),(9,.func (.func 205) #[] #[pt g4,pt g8])] [⟨gR,84,vs++[.slice none 0 0]⟩,⟨g8,113,[.slice (some ⟨gR,0,none⟩) vs.length (vs.length+1)]⟩,⟨g6,24,numC 0⟩,⟨g4,9,[.string s]⟩,⟨g3,24,numC m⟩] [false,false,false,false,true,false,false,false,false,false] 9:=by
      refine (hA _ _ _ _).2 (WA.step [0,2] ?_)
      refine Each.cons ?_ ?_
      · first|refine Ta ?_|(refine Tm ?_;intro _)|refine Tc ?_
        refine WO.nil (WX.wa ?_)
        exact WA.less _ _ ((hA _ _ _ _).1 (hS17))
      refine Each.cons ?_ ?_
      · first|refine Ta ?_|(refine Tm ?_;intro _)|refine Tc ?_
        refine WO.nil (WX.wa ?_)
        exact WA.less _ _ ((hA _ _ _ _).1 (hS20))
      exact Each.nil
    have hS0:A [(3,pt g3),(6,pt g6),(9,.func (.func 205) #[] #[pt g4,pt g8])] [⟨gR,84,vs++[.slice none 0 0]⟩,⟨g8,113,[.slice (some ⟨gR,0,none⟩) vs.length (vs.length+1)]⟩,⟨g6,24,numC 0⟩,⟨g4,9,[.string s]⟩,⟨g3,24,numC m⟩] [false,false,false,false,false,false,false,false,false,false] 10:=by
      refine (hA _ _ _ _).2 (WA.step [0,2,4] ?_)
      refine Each.cons ?_ ?_
      · first|refine Ta ?_|(refine Tm ?_;intro _)|refine Tc ?_
        refine WO.nil (WX.wa ?_)
        exact WA.less _ _ ((hA _ _ _ _).1 (hS1))
      refine Each.cons ?_ ?_
      · first|refine Ta ?_|(refine Tm ?_;intro _)|refine Tc ?_
        refine WO.nil (WX.wa ?_)
        exact WA.less _ _ ((hA _ _ _ _).1 (hS4))
      refine Each.cons ?_ ?_
      · first|refine Ta ?_|(refine Tm ?_;intro _)|refine Tc ?_
        refine WO.nil (WX.wa ?_)
        exact WA.less _ _ ((hA _ _ _ _).1 (hS16))
      exact Each.nil
    exact (hA _ _ _ _).2 (WA.less _ _ ((hA _ _ _ _).1 hS0))
  intro z3
  refine (hA _ _ _ _).2 (WA.done ?_)
  repeat (first|refine Ta ?_|(refine Tm ?_;intro _)|refine Tc ?_|exact Tz)
end Sx
end Go.Proofs.YtmhligfnchegdaaGreatDoor
namespace Go.Proofs.YtmhligfnchegdaaGreatDoor
open Go Go.RowKit Go.BigFrame
namespace Sx
attribute [local irreducible] wd DQ DQS WO WC WX
abbrev fldV (p q g h:Nat) (s:ByteArray):Value:=.agg #[.int .u64 ((wd 0 p:Nat):Int),.int .u64 ((wd 1 p:Nat):Int),.int .u64 ((wd 2 p:Nat):Int),.int .u64 ((wd 3 p:Nat):Int),.int .u64 ((wd 0 q:Nat):Int),.int .u64 ((wd 1 q:Nat):Int),.int .u64 ((wd 2 q:Nat):Int),.int .u64 ((wd 3 q:Nat):Int),.int .u64 ((wd 0 g:Nat):Int),.int .u64 ((wd 1 g:Nat):Int),.int .u64 ((wd 2 g:Nat):Int),.int .u64 ((wd 3 g:Nat):Int),.int .u64 ((wd 0 h:Nat):Int),.int .u64 ((wd 1 h:Nat):Int),.int .u64 ((wd 2 h:Nat):Int),.int .u64 ((wd 3 h:Nat):Int),.string s]
theorem okE_eq (b:Bool):decide (okE b=0)=b:=by cases b<;>rfl
section
variable (p q g h:Nat) (s:ByteArray)
theorem c_fExp (a:Nat) (ha:a<B256) (hq:q<B256):Fn Tryz.prog 117 [fldV p q g h s,numV a] Tr (Is (.bool (mayN a a q))):=by
  have hO:=c_SAdd p q g h a a ha ha hq
  generalize mayN a a q=b at *
  refine Fn.enter Tryz.func117 rfl rfl rfl ?_
  intro w hw
  repeat (first|refine Td ?_|(refine Tm ?_;intro _)|refine WO.acall (hc:=hO) (k:=?_)|refine Tc ?_|exact Tz)
  cases b<;>exact WX.aret1 (hp:=rfl)
theorem c_fPow (a n:Nat) (ha:a<B256) (hn:n<B256) (hp:p<B256):Fn Tryz.prog 118 [fldV p q g h s,numV a,numV n] Tr (Is (numV (okV (gMay p a) (a ^ n%p)))):=by
  have hO:=c_gExp p q g h a n ha hn hp
  refine Fn.enter Tryz.func118 rfl rfl rfl ?_
  intro w hw
  repeat (first|refine Td ?_|(refine Tm ?_;intro _)|refine WO.acall (hc:=hO) (k:=?_)|refine Tc ?_|exact Tz)
theorem Seg.left {w:World} {b o:Nat} {xs ys:List Value} (h:Seg w b o (xs++ys)):Seg w b o xs:=fun i v hv=>h i v (by rw[List.getElem?_append_left (by rcases Nat.lt_or_ge i xs.length with h|h;exact h;rw[List.getElem?_eq_none h] at hv;cases hv)];exact hv)
set_option maxHeartbeats 2000000 in
theorem c_fChal (x0 x1 x2 x3 x4 x5 b o c:Nat) (hq:q<B256) (h0:0<q) (hs:s.size≤274877906944) :
    Fn Tryz.prog 119 [fldV p q g h s,.slice (some ⟨b,o,none⟩) 6 c] (fun w=>Seg w b o (numC x0++(numC x1++(numC x2++(numC x3++(numC x4++numC x5))))))
      (Is (numV (hNum q (strB s) [be 32 x0,be 32 x1,be 32 x2,be 32 x3,be 32 x4,be 32 x5]))):=by
  have hP:∀ x,Fn Tryz.prog 115 [.slice none 0 0,numV x] (fun w=>Rd (.slice none 0 0) 0 [] w) (NewS 5 32 (byC (be 32 x))):=fun x=>by
    have h:=c_PutLong [] x 0 none (by simp)
    rw[List.nil_append,be_length] at h
    exact h
  have hb:(hBytes (strB s) [be 32 x0,be 32 x1,be 32 x2,be 32 x3,be 32 x4,be 32 x5]).length≤1099511627776:=by
    simp only[hBytes,hHead,hBody,List.flatMap_cons,List.flatMap_nil,List.length_append,be_length,strB_length,List.length_nil]
    omega
  have hl:∀ X∈[be 32 x0,be 32 x1,be 32 x2,be 32 x3,be 32 x4,be 32 x5],∀ x∈X,x<256:=by
    intro X hX
    simp only[List.mem_cons,List.not_mem_nil,or_false] at hX
    rcases hX with rfl|rfl|rfl|rfl|rfl|rfl<;>exact be_lt
  have hN:=fun p0 p1 p2 p3 p4 p5 gR=>c_Number q s [.slice (some ⟨p0,0,none⟩) 32 32,.slice (some ⟨p1,0,none⟩) 32 32,.slice (some ⟨p2,0,none⟩) 32 32,.slice (some ⟨p3,0,none⟩) 32 32,.slice (some ⟨p4,0,none⟩) 32 32,.slice (some ⟨p5,0,none⟩) 32 32] [be 32 x0,be 32 x1,be 32 x2,be 32 x3,be 32 x4,be 32 x5] gR 0 6 hq h0 hl hb hs
  generalize hNum q (strB s) [be 32 x0,be 32 x1,be 32 x2,be 32 x3,be 32 x4,be 32 x5]=R at *
  refine Fn.enter Tryz.func119 rfl rfl rfl ?_
  intro w hw
  simp only[numC,List.cons_append,List.nil_append] at hw
  repeat (first|refine WX.rounds ?_|refine WC.loopU 6 ?_|refine Td ?_|(refine Tm ?_;intro _)|(refine WO.makes (makes_slice (l:=6) (c:=6) rfl rfl (by omega) (by omega) (by omega)) ?_;intro _)|(refine WO.acallN (hc:=hP _) (hR:=fun _ _=>Rd.nil) (k:=?_);intro _)|refine Tc ?_|exact Tz)
  rename_i g2 g4 gR a0 p0 a1 p1 a2 p2 a3 p3 a4 p4 a5 p5
  refine WO.acallR (hc:=hN p0 p1 p2 p3 p4 p5 gR) (hR:=fun w1 hm=>?_) (k:=?_)
  · exact⟨Hs.seg (by repeat (first|exact Hs.here|apply Hs.there)) hm,Parts.cons (RdP.own0 (c:=32) (g:=p0) (X:=be 32 x0) hm (by repeat (first|exact Hs.here|apply Hs.there)) (by rw[be_length];decide) (by decide)) (Parts.cons (RdP.own0 (c:=32) (g:=p1) (X:=be 32 x1) hm (by repeat (first|exact Hs.here|apply Hs.there)) (by rw[be_length];decide) (by decide)) (Parts.cons (RdP.own0 (c:=32) (g:=p2) (X:=be 32 x2) hm (by repeat (first|exact Hs.here|apply Hs.there)) (by rw[be_length];decide) (by decide)) (Parts.cons (RdP.own0 (c:=32) (g:=p3) (X:=be 32 x3) hm (by repeat (first|exact Hs.here|apply Hs.there)) (by rw[be_length];decide) (by decide)) (Parts.cons (RdP.own0 (c:=32) (g:=p4) (X:=be 32 x4) hm (by repeat (first|exact Hs.here|apply Hs.there)) (by rw[be_length];decide) (by decide)) (Parts.cons (RdP.own0 (c:=32) (g:=p5) (X:=be 32 x5) hm (by repeat (first|exact Hs.here|apply Hs.there)) (by rw[be_length];decide) (by decide)) Parts.nil)))))⟩
  repeat (first|refine Td ?_|(refine Tm ?_;intro _)|refine Tc ?_|exact Tz)
end
end Sx
end Go.Proofs.YtmhligfnchegdaaGreatDoor
namespace Go.Proofs.YtmhligfnchegdaaGreatDoor
open Go Go.RowKit Go.BigFrame
namespace Sx
attribute [local irreducible] wd DQ DQS WO WC WX
section
open Kp
variable {P:Program} {w0:World} {gs:List Nat} {n:Nat} {fl:List Nat} {Q:Exit→Act→World→Prop} {ops:List Oper} {L0:List Ent}
variable {tail rest:List Oper} {i:Nat} {C:Nums→Prop} {K:Nums→List (Nat × Value)} {N:Nums→List (Nat × Ent)}
variable {d:Nat} {op:Op} {ty:TypeId} {pos:String} {after:Array Edge} {gd:Option (Nat × Bool)}
theorem Fn.ex {f:FuncId} {ar:List Value} {R:World→Prop} {v:Value} (h:Fn P f ar R (Is v)):Fn P f ar R (Ex (fun _=>v) (fun _=>[]) (fun _=>True)) :=
  fun w hw=>(h w hw).mono (fun e w' ⟨v',N,h1,h2,_,h4⟩=>⟨v',[],h1,h2,News.nil _ _,fun _=>0,h4,rfl,trivial⟩)
theorem DQ.acallV {f:FuncId} [Cal P f] {x:Operand} {xs:Array Operand} {ats:Array TypeId} {fs ar cs ar' : List Value} {v:Value} (hc:Fn P f ar' Tr (Is v)) (hx:∀ s,ev (K s) x=some (.func (.func f) fs.toArray cs.toArray):=by (intro s;rfl)) (ha:∀ s,evs (K s) xs.toList=some ar:=by (intro s;rfl)) (hh:fs++ar++cs=ar':=by rfl)
    (k:DQ P w0 gs n fl Q ops L0 tail (i+1) rest (fun s=>C s∧True) (fun s=>(d,v)::K s) N) (hfl:fl.contains i=false:=by rfl) (hw:∀ s,wk ops (K s) gd=some true:=by intro _;rfl) (hd:Nat.blt d n=true:=by rfl) :
    DQ P w0 gs n fl Q ops L0 tail i (⟨some d,.call { callee:=.value x,args:=xs,argTypes:=ats },ty,pos,after,gd⟩::rest) C K N :=
  DQ.callsE (fs:=fun _=>fs) (cs:=fun _=>cs) (R:=fun _=>Tr) (vf:=fun _ _=>v) (Nf:=fun _ _=>[]) (S:=fun _ _=>True) (fun _=>[]) (fun _=>.nil) (fun _=>⟨fun _=>0,trivial⟩) (fun _ _=>hc.ex) hx ha (fun _=>hh) (fun _ _ _ _=>trivial) Dp.const Dp.const Dp.const k hfl hw hd
end
def prC (p q:Nat) (s:List Nat) (x base y draw:Nat):Nat:=hNum q s [be 32 base,be 32 (base ^ x%p),be 32 y,be 32 (y ^ x%p),be 32 (base ^ draw%p),be 32 (y ^ draw%p)]
def prB (p q x base y draw:Nat):Bool:=gMay p base && gMay p y && mayN x x q && mayN draw draw q && decide (draw≠0)
abbrev prV (b:Bool) (c s:Nat):Value:=.tuple #[.agg #[.int .u64 ((wd 0 (okV b c):Nat):Int),.int .u64 ((wd 1 (okV b c):Nat):Int),.int .u64 ((wd 2 (okV b c):Nat):Int),.int .u64 ((wd 3 (okV b c):Nat):Int),.int .u64 ((wd 0 (okV b s):Nat):Int),.int .u64 ((wd 1 (okV b s):Nat):Int),.int .u64 ((wd 2 (okV b s):Nat):Int),.int .u64 ((wd 3 (okV b s):Nat):Int)],.int .i64 (okE b)]
theorem hNum_lt {q:Nat} (h:0<q) (s:List Nat) (Ps:List (List Nat)):hNum q s Ps<q:=Nat.mod_lt _ h
set_option maxHeartbeats 2000000 in
theorem c_ProveN (p q g h:Nat) (s:ByteArray) (x base y draw c S:Nat) (hp:p<B256) (hq:q<B256) (hx:x<B256) (hb:base<B256) (hy:y<B256) (hd:draw<B256) (hB:prB p q x base y draw=false) :
    Fn Tryz.prog 27 [grpV p q g h,.string s,numV x,numV base,numV y,numV draw] Tr (Is (prV false c S)):=by
  have h1:=c_gMul p q g h base y hb hy hp
  have h2:=c_fExp p q g h s x hx hq
  have h3:=c_fExp p q g h s draw hd hq
  unfold prB at hB
  cases e1:(gMay p base && gMay p y) with
  | false =>
    rw[e1] at h1
    clear hB e1
    refine Fn.enter Tryz.func27 rfl rfl rfl ?_
    intro w hw
    repeat (first|refine Td ?_|(refine Tm ?_;intro _)|refine WO.acall (hc:=h1) (k:=?_)|refine WO.acall (hc:=h2) (k:=?_)|refine WO.acall (hc:=h3) (k:=?_)|refine Tc ?_|exact Tz)
    done
  | true =>
  rw[e1] at h1 hB
  clear e1
  cases e2:mayN x x q with
  | false =>
    rw[e2] at h2
    clear hB e2
    refine Fn.enter Tryz.func27 rfl rfl rfl ?_
    intro w hw
    repeat (first|refine Td ?_|(refine Tm ?_;intro _)|refine WO.acall (hc:=h1) (k:=?_)|refine WO.acall (hc:=h2) (k:=?_)|refine WO.acall (hc:=h3) (k:=?_)|refine Tc ?_|exact Tz)
    done
  | true =>
  rw[e2] at h2 hB
  clear e2
  cases e3:mayN draw draw q with
  | false =>
    rw[e3] at h3
    clear hB e3
    refine Fn.enter Tryz.func27 rfl rfl rfl ?_
    intro w hw
    repeat (first|refine Td ?_|(refine Tm ?_;intro _)|refine WO.acall (hc:=h1) (k:=?_)|refine WO.acall (hc:=h2) (k:=?_)|refine WO.acall (hc:=h3) (k:=?_)|refine Tc ?_|exact Tz)
    done
  | true =>
  rw[e3] at h3 hB
  clear e3
  have e4:draw=0:=by simpa using hB
  have e4' : decide (draw=0)=true:=by simpa using e4
  refine Fn.enter Tryz.func27 rfl rfl rfl ?_
  intro w hw
  repeat (first|refine Td ?_|(refine Tm ?_;intro _)|refine WO.acall (hc:=h1) (k:=?_)|refine WO.acall (hc:=h2) (k:=?_)|refine WO.acall (hc:=h3) (k:=?_)|refine WO.does a_eqNum ?_|refine Tc ?_|exact Tz)
  done
set_option maxHeartbeats 2000000 in
theorem c_ProveY (p q g h:Nat) (s:ByteArray) (x base y draw c:Nat) (hp:p<B256) (hq:q<B256) (hx:x<B256) (hb:base<B256) (hy:y<B256) (hd:draw<B256) (hs:s.size≤274877906944) (hB:prB p q x base y draw=true) (hc:prC p q (strB s) x base y draw=c) :
    Fn Tryz.prog 27 [grpV p q g h,.string s,numV x,numV base,numV y,numV draw] Tr (Is (prV true c ((draw+x*c%q)%q))):=by
  have h1:=c_gMul p q g h base y hb hy hp
  have h2:=c_fExp p q g h s x hx hq
  have h3:=c_fExp p q g h s draw hd hq
  unfold prB at hB
  simp only[Bool.and_eq_true,decide_eq_true_eq] at hB
  obtain⟨⟨⟨⟨hgb,hgy⟩,e2⟩,e3⟩,e4⟩:=hB
  rw[hgb,hgy] at h1
  rw[e2] at h2
  rw[e3] at h3
  have e4' : decide (draw=0)=false:=by simpa using e4
  have hq1:=(mayN_spec e2).1
  have p1:=c_fPow p q g h s base x hb hx hp
  have p2:=c_fPow p q g h s y x hy hx hp
  have p3:=c_fPow p q g h s base draw hb hd hp
  have p4:=c_fPow p q g h s y draw hy hd hp
  rw[hgb] at p1 p3
  rw[hgy] at p2 p4
  have hC:=fun j=>c_fChal p q g h s base (base ^ x%p) y (y ^ x%p) (base ^ draw%p) (y ^ draw%p) j 0 6 hq (by omega) hs
  have hcl:prC p q (strB s) x base y draw<q:=hNum_lt (by omega) _ _
  rw[show hNum q (strB s) [be 32 base,be 32 (base ^ x%p),be 32 y,be 32 (y ^ x%p),be 32 (base ^ draw%p),be 32 (y ^ draw%p)]=prC p q (strB s) x base y draw from rfl] at hC
  rw[hc] at hC hcl
  clear hc
  have hM:=c_SMul p q g h x c hx (Nat.lt_trans hcl hq) hq
  have hxq:=(mayN_spec e2).2.1
  have hdq:=(mayN_spec e3).2.1
  rw[show mayN x c q=true by simp[mayN,hq1,hxq,hcl]] at hM
  have hml:x*c%q<q:=Nat.mod_lt _ (by omega)
  have hA:=c_SAdd p q g h draw (x*c%q) hd (Nat.lt_trans hml hq) hq
  rw[show mayN draw (x*c%q) q=true by simp[mayN,hq1,hdq,hml]] at hA
  generalize (draw+x*c%q)%q=S at *
  generalize x*c%q=M at *
  generalize base ^ x%p=P1 at *
  generalize y ^ x%p=P2 at *
  generalize base ^ draw%p=P3 at *
  generalize y ^ draw%p=P4 at *
  refine Fn.enter Tryz.func27 rfl rfl rfl ?_
  intro w hw
  repeat (first|refine Td ?_|(refine Tm ?_;intro _)|refine WO.acall (hc:=h1) (k:=?_)|refine WO.acall (hc:=h2) (k:=?_)|refine WO.acall (hc:=h3) (k:=?_)|refine WO.does a_eqNum ?_|refine Tc ?_|exact Tz)
  refine WC.adraw 22 (k:=?_)
  repeat (first|refine Da ?_|refine DQ.acallV (hc:=p1) (k:=?_)|refine DQ.acallV (hc:=p2) (k:=?_)|refine DQ.acallV (hc:=p3) (k:=?_)|refine DQ.acallV (hc:=p4) (k:=?_)|refine DQ.makes (fun s _=>makes_build (cs:=numC base++(numC P1++(numC y++(numC P2++(numC P3++numC P4))))) rfl (by decide) rfl) Dp.const Dp.const ?_|refine DQ.acallB 19 (fun s=>⟨s 19 0,24,numC base++(numC P1++(numC y++(numC P2++(numC P3++numC P4))))⟩) (fun s=>hC (s 19 0)) (fun s w hm=>Hs.seg Hs.here hm) ?_|refine Dc ?_)
  refine DQ.anil (k:=?_)
  intro sx _
  generalize sx 21 0=gK
  generalize sx 19 0=gR
  repeat (first|refine Td ?_|(refine Tm ?_;intro _)|refine WO.acall (hc:=hM) (k:=?_)|refine WO.acall (hc:=hA) (k:=?_)|refine Tc ?_|exact Tz)
  done
theorem c_Prove (p q g h:Nat) (s:ByteArray) (x base y draw:Nat) (hp:p<B256) (hq:q<B256) (hx:x<B256) (hb:base<B256) (hy:y<B256) (hd:draw<B256) (hs:s.size≤274877906944) :
    Fn Tryz.prog 27 [grpV p q g h,.string s,numV x,numV base,numV y,numV draw] Tr (Is (prV (prB p q x base y draw) (prC p q (strB s) x base y draw) ((draw+x*prC p q (strB s) x base y draw%q)%q))):=by
  generalize hc:prC p q (strB s) x base y draw=c
  cases hB:prB p q x base y draw with
  | false=>exact c_ProveN p q g h s x base y draw c _ hp hq hx hb hy hd hB
  | true=>exact c_ProveY p q g h s x base y draw c hp hq hx hb hy hd hs hB hc
end Sx
end Go.Proofs.YtmhligfnchegdaaGreatDoor
