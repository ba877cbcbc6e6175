/- Part 30 of the proof: RfH, RfI, RfW, RfJ -/
import Derived.Test.YtmhligfnchegdaaGreatDoorM29
import Derived.Test.YtmhligfnchegdaaGreatDoorM28
import Derived.Test.YtmhligfnchegdaaGreatDoorM24
set_option linter.unusedSimpArgs false
set_option linter.unusedVariables false
namespace Go.Proofs.YtmhligfnchegdaaGreatDoor
open Go Go.RowKit
namespace Sx
attribute [local irreducible] DQ DQS WO WC WX
theorem bit_step (a i:Nat):a / 2 ^ i=2*(a / 2 ^ (i+1))+bitN a i:=by
  unfold bitN
  rw[Nat.pow_succ,← Nat.div_div_eq_div_mul];omega
theorem mod_twice (A b m:Nat):(2*(A%m)+b)%m=(2*A+b)%m:=by
  rw[Nat.add_mod,Nat.mul_mod_mod,← Nat.add_mod]
theorem B256_pow:B256=2 ^ 256:=by decide
theorem bit_low {hi lo i:Nat} (h:i<256):bitN (hi*B256+lo) i=bitN lo i:=by
  unfold bitN
  have e:hi*B256+lo=2 ^ i*(2*(hi*2 ^ (255 - i)))+lo:=by
    rw[B256_pow]
    congr 1
    have:(2:Nat) ^ 256=2 ^ i*(2*2 ^ (255 - i)):=by
      rw[show 2*2 ^ (255 - i)=2 ^ (256 - i) by rw[show 256 - i=(255 - i)+1 by omega,Nat.pow_succ,Nat.mul_comm],← Nat.pow_add]
      congr 1;omega
    rw[this,Nat.mul_left_comm hi,Nat.mul_left_comm hi]
  rw[e,Nat.mul_add_div (Nat.two_pow_pos i),Nat.mul_add_mod]
theorem bitN_le (a i:Nat):bitN a i≤1:=by unfold bitN;omega
theorem word_of {hi lo i:Nat} (hlo:lo<B256) (hhi:hi<B256) (h:i<8):(hi*B256+lo) / 18446744073709551616 ^ i%18446744073709551616=if 4≤i then wd (i - 4) hi else wd i lo:=by
  unfold B256 at *
  match i,h with
  | 0,_|1,_|2,_|3,_|4,_|5,_|6,_|7,_=>simp only[wd,Nat.reducePow,Nat.reduceLeDiff,if_true,if_false,Nat.reduceSub];omega
theorem word_step (N i:Nat):N / 18446744073709551616 ^ i=N / 18446744073709551616 ^ (i+1)*18446744073709551616+N / 18446744073709551616 ^ i%18446744073709551616:=by
  rw[Nat.pow_succ,← Nat.div_div_eq_div_mul];omega
theorem mod_words (A w m:Nat):(A%m*18446744073709551616+w)%m=(A*18446744073709551616+w)%m:=by
  rw[Nat.add_mod,Nat.mod_mul_mod,← Nat.add_mod]
set_option maxHeartbeats 2000000 in
theorem r_WideW (lo hi m:Nat) (hlo:lo<B256) (hhi:hi<B256) (hm:m<18446744073709551616) (h0:0<m):Fn Tryz.prog 221 [numV lo,numV hi,numV m] Tr (Is (.tuple #[numV ((hi*B256+lo)%m),.int .i64 0])):=by
  have hmB:m<B256:=B256_of hm
  have hW:=r_Word m hmB
  rw[decide_eq_true hm] at hW
  have hne:decide (m=0)=false:=decide_eq_false (by omega)
  have hm0:wd 0 m=m:=Nat.mod_eq_of_lt hm
  have hwo:=fun i (h:i<8)=>word_of hlo hhi h
  have hws:=fun i=>word_step (hi*B256+lo) i
  have hend:(hi*B256+lo) / 18446744073709551616 ^ 8=0:=Nat.div_eq_of_lt (by unfold B256 at *;omega)
  generalize hi*B256+lo=N at *
  have hD:∀ r w:Nat,w<18446744073709551616→r<m→Fn Tryz.prog 234 [.int .u64 (r:Int),.int .u64 (w:Int),.int .u64 ((wd 0 m:Nat):Int)] Tr
      (Is (.tuple #[.int .u64 (((r*18446744073709551616+w) / m:Nat):Int),.int .u64 (((r*18446744073709551616+w)%m:Nat):Int)])):=fun r w h1 h3=>by rw[hm0];exact c_Div64 r w m h1 hm h3
  have hO:=r_Of (N%m) (Nat.lt_trans (Nat.mod_lt _ h0) hm)
  refine Fn.enter Tryz.func221 rfl rfl rfl ?_
  intro w hw
  repeat (first|refine Ta ?_|(refine Tm ?_;intro _)|refine WO.does a_eqNum ?_|refine Tc ?_|exact Tz)
  rw[hne]
  repeat (first|refine Ta ?_|(refine Tm ?_;intro _)|refine WO.acall (hc:=hW) (k:=?_)|refine Tc ?_|exact Tz)
  rename_i g3 g4 g5 g6
  refine WC.loopI (σ:=Nat) (fun j=>j≤8) (fun j=>[(3,pt g3),(4,pt g4),(5,pt g5),(6,pt g6),(7,.int .i64 0),(8,.int .u64 ((N / 18446744073709551616 ^ j%m:Nat):Int)),(9,.int .i64 ((j:Int) - 1))]) (fun j=>[⟨g3,24,numC lo⟩,⟨g4,24,numC hi⟩,⟨g5,24,numC m⟩,⟨g6,24,numC 0⟩]) (fun j=>j) 8 (fun j hj=>?_) (Nat.le_refl _) (by
      rw[hend,Nat.zero_mod]
      repeat (first|exact Kle.nil|refine Kle.cons rfl rfl ?_))
  try dsimp only at hj ⊢
  cases j with
  | zero =>
    rw[Nat.pow_zero,Nat.div_one]
    generalize N%m=R at *
    repeat (first|refine Ta ?_|(refine Tm ?_;intro _)|refine WO.acall (hc:=hO) (k:=?_)|refine Tc ?_|exact Tz)
  | succ i =>
    have hr:=rem_nat i 4
    have hw:=hwo i (by omega)
    have hst:=hws i
    have hDi:=hD (N / 18446744073709551616 ^ (i+1)%m) (N / 18446744073709551616 ^ i%18446744073709551616) (Nat.mod_lt _ (by decide)) (Nat.mod_lt _ h0)
    rw[mod_words,← hst,hw] at hDi
    rw[show (((i+1:Nat):Int) - 1)=(i:Int) by omega]
    clear hw hst hws hwo hD hO hend
    by_cases h4:4≤i
    · rw[if_pos h4] at hDi
      have d4:decide ((4:Int)≤(i:Int))=true:=decide_eq_true (by omega)
      have hs4:IntKind.i64.wrap ((i:Int) - 4)=((i - 4:Nat):Int):=i64_in' (by omega) (by omega) (by omega)
      generalize hR' : N / 18446744073709551616 ^ i%m=R' at *
      generalize N / 18446744073709551616 ^ (i+1)%m=R at *
      generalize (R*18446744073709551616+wd (i - 4) hi) / m=q at *
      repeat (first|refine Ta ?_|(refine Tm ?_;intro _)|refine WO.does (does_rem rfl rfl (by decide) hr) ?_|refine WO.does (l_num (hj:=by omega)) ?_|refine Tc ?_|exact Tz)
      rw[d4]
      repeat (first|refine Ta ?_|(refine Tm ?_;intro _)|refine WO.does (does_sub rfl rfl hs4) ?_|refine WO.does (l_num (hj:=by omega)) ?_|refine WO.acall (hc:=hDi) (k:=?_)|refine Tc ?_|exact Tz)
      refine WX.metI i (hs:=⟨by omega,by show i<i+1;omega⟩) (hk:=(by repeat (first|exact Kle.nil|refine Kle.cons rfl (by first|rfl|(rw[hR'])) ?_)))
    · rw[if_neg h4] at hDi
      have d4:decide ((4:Int)≤(i:Int))=false:=decide_eq_false (by omega)
      have him:i%4=i:=Nat.mod_eq_of_lt (by omega)
      rw[him] at hr
      generalize hR' : N / 18446744073709551616 ^ i%m=R' at *
      generalize N / 18446744073709551616 ^ (i+1)%m=R at *
      generalize (R*18446744073709551616+wd i lo) / m=q at *
      repeat (first|refine Ta ?_|(refine Tm ?_;intro _)|refine WO.does (does_rem rfl rfl (by decide) hr) ?_|refine WO.does (l_num (hj:=by omega)) ?_|refine Tc ?_|exact Tz)
      rw[d4]
      repeat (first|refine Ta ?_|(refine Tm ?_;intro _)|refine WO.acall (hc:=hDi) (k:=?_)|refine Tc ?_|exact Tz)
      refine WX.metI i (hs:=⟨by omega,by show i<i+1;omega⟩) (hk:=(by repeat (first|exact Kle.nil|refine Kle.cons rfl (by first|rfl|(rw[hR'])) ?_)))
end Sx
end Go.Proofs.YtmhligfnchegdaaGreatDoor
namespace Go.Proofs.YtmhligfnchegdaaGreatDoor
open Go Go.RowKit
namespace Sx
attribute [local irreducible] DQ DQS WO WC WX
set_option maxHeartbeats 2000000 in
theorem r_WideL (lo hi m:Nat) (hlo:lo<B256) (hhi:hi<B256) (hm:¬ m<18446744073709551616) (hmB:m<B256):Fn Tryz.prog 221 [numV lo,numV hi,numV m] Tr (Is (.tuple #[numV ((hi*B256+lo)%m),.int .i64 0])):=by
  have hW:=r_Word m hmB
  rw[decide_eq_false hm] at hW
  have hne:decide (m=0)=false:=decide_eq_false (by omega)
  have hm0:0<m:=by omega
  have hB1:=fun i (hi2:i<256)=>r_Bit hi i hhi hi2
  have hB2:=fun i (hi2:i<256)=>r_Bit lo i hlo hi2
  have hT:=fun (r b:Nat) (hr:r<m) (hb:b≤1)=>r_twice r b m hr hb hmB
  have hs1:=fun i=>bit_step hi i
  have hs2:=fun i=>bit_step (hi*B256+lo) i
  have hlow:=fun i (h:i<256)=>bit_low (hi:=hi) (lo:=lo) h
  have htop:hi / 2 ^ 256%m=0:=by rw[Nat.div_eq_of_lt (by rw[← B256_pow];exact hhi),Nat.zero_mod]
  have hmid:(hi*B256+lo) / 2 ^ 256=hi:=by rw[← B256_pow,Nat.mul_comm,Nat.mul_add_div B256_zero,Nat.div_eq_of_lt hlo,Nat.add_zero]
  generalize hi*B256+lo=N at *
  refine Fn.enter Tryz.func221 rfl rfl rfl ?_
  intro w hw
  repeat (first|refine Ta ?_|(refine Tm ?_;intro _)|refine WO.does a_eqNum ?_|refine Tc ?_|exact Tz)
  rw[hne]
  repeat (first|refine Ta ?_|(refine Tm ?_;intro _)|refine WO.acall (hc:=hW) (k:=?_)|refine Tc ?_|exact Tz)
  rename_i g3 g4 g5 g6 g11
  refine WC.loopI (σ:=Nat) (fun j=>j≤256) (fun j=>[(3,pt g3),(4,pt g4),(5,pt g5),(6,pt g6),(7,.int .i64 0),(11,pt g11),(12,.int .i64 ((j:Int) - 1))]) (fun j=>[⟨g3,24,numC lo⟩,⟨g4,24,numC hi⟩,⟨g5,24,numC m⟩,⟨g6,24,numC 0⟩,⟨g11,24,numC (hi / 2 ^ j%m)⟩]) (fun j=>j) 256 (fun j hj=>?_) (Nat.le_refl _) (by repeat (first|exact Kle.nil|refine Kle.cons rfl rfl ?_)) (by
      rw[htop]
      repeat (first|exact Lle.nil|refine Lle.cons (by repeat (first|exact Pk.here|apply Pk.there)) rfl ?_))
  try dsimp only at hj ⊢
  cases j with
  | succ i =>
    have h1:=hB1 i (by omega)
    have h2:=hT (hi / 2 ^ (i+1)%m) (bitN hi i) (Nat.mod_lt _ hm0) (bitN_le _ _)
    rw[mod_twice,← hs1 i] at h2
    rw[show (((i+1:Nat):Int) - 1)=(i:Int) by omega]
    clear hs1 hs2 hlow htop hmid hB1 hB2 hT
    generalize hR:hi / 2 ^ (i+1)%m=R at *
    generalize hR' : hi / 2 ^ i%m=R' at *
    repeat (first|refine Ta ?_|(refine Tm ?_;intro _)|refine Tc ?_|exact Tz)
    refine WC.adraw 6 (k:=?_)
    repeat (first|refine Da ?_|refine DQ.acall (hc:=h1) (k:=?_)|refine DQ.acall (hc:=h2) (k:=?_)|refine Dc ?_)
    refine DQ.anil (k:=?_)
    intro sx _
    repeat (first|refine Ta ?_|(refine Tm ?_;intro _)|refine Tc ?_|exact Tz)
    refine WX.metI i (hl:=(by repeat (first|exact Lle.nil|refine Lle.cons (by repeat (first|exact Pk.here|apply Pk.there)) (by first|rfl|(rw[hR'])) ?_))) (hs:=⟨by omega,by show i<i+1;omega⟩)
  | zero =>
    rw[Nat.pow_zero,Nat.div_one]
    repeat (first|refine Ta ?_|(refine Tm ?_;intro _)|refine Tc ?_|exact Tz)
    refine WC.loopI (σ:=Nat) (fun j=>j≤256) (fun j=>[(3,pt g3),(4,pt g4),(5,pt g5),(6,pt g6),(7,.int .i64 0),(11,pt g11),(13,.int .i64 ((j:Int) - 1))]) (fun j=>[⟨g3,24,numC lo⟩,⟨g4,24,numC hi⟩,⟨g5,24,numC m⟩,⟨g6,24,numC 0⟩,⟨g11,24,numC (N / 2 ^ j%m)⟩]) (fun j=>j) 256 (fun j hj=>?_) (Nat.le_refl _) (by repeat (first|exact Kle.nil|refine Kle.cons rfl rfl ?_)) (by
      rw[hmid]
      repeat (first|exact Lle.nil|refine Lle.cons (by repeat (first|exact Pk.here|apply Pk.there)) rfl ?_))
    try dsimp only at hj ⊢
    cases j with
    | succ i =>
      have h1:=hB2 i (by omega)
      have h2:=hT (N / 2 ^ (i+1)%m) (bitN N i) (Nat.mod_lt _ hm0) (bitN_le _ _)
      rw[mod_twice,← hs2 i,hlow i (by omega)] at h2
      rw[show (((i+1:Nat):Int) - 1)=(i:Int) by omega]
      clear hs1 hs2 hlow htop hmid hB1 hB2 hT
      generalize hR:N / 2 ^ (i+1)%m=R at *
      generalize hR' : N / 2 ^ i%m=R' at *
      repeat (first|refine Ta ?_|(refine Tm ?_;intro _)|refine Tc ?_|exact Tz)
      refine WC.adraw 6 (k:=?_)
      repeat (first|refine Da ?_|refine DQ.acall (hc:=h1) (k:=?_)|refine DQ.acall (hc:=h2) (k:=?_)|refine Dc ?_)
      refine DQ.anil (k:=?_)
      intro sx _
      repeat (first|refine Ta ?_|(refine Tm ?_;intro _)|refine Tc ?_|exact Tz)
      refine WX.metI i (hl:=(by repeat (first|exact Lle.nil|refine Lle.cons (by repeat (first|exact Pk.here|apply Pk.there)) (by first|rfl|(rw[hR'])) ?_))) (hs:=⟨by omega,by show i<i+1;omega⟩)
    | zero =>
      rw[Nat.pow_zero,Nat.div_one]
      generalize N%m=R at *
      repeat (first|refine Ta ?_|(refine Tm ?_;intro _)|refine Tc ?_|exact Tz)
theorem r_Wide (lo hi m:Nat) (hlo:lo<B256) (hhi:hi<B256) (hmB:m<B256) (h0:0<m):Fn Tryz.prog 221 [numV lo,numV hi,numV m] Tr (Is (.tuple #[numV ((hi*B256+lo)%m),.int .i64 0])):=by
  by_cases hm:m<18446744073709551616
  · exact r_WideW lo hi m hlo hhi hm h0
  · exact r_WideL lo hi m hlo hhi hm hmB
end Sx
end Go.Proofs.YtmhligfnchegdaaGreatDoor
namespace Go.Proofs.YtmhligfnchegdaaGreatDoor
open Go Go.RowKit Go.BigFrame
namespace Sx
attribute [local irreducible] wd DQ DQS WO WC WX
theorem beV_B256 {l:List Nat} (h:∀ b∈l,b<256) (hl:l.length=32):beV l<B256:=by
  have:=beV_lt h
  rw[hl] at this
  exact Nat.lt_of_lt_of_eq this (by decide)
theorem hBytes_snoc (s:List Nat) (Ps:List (List Nat)) (k:Nat):(hBytes s (Ps++[[k]])).length=(hBytes s Ps).length+5:=by
  rw[hBytes_len,hBytes_len,hBody_snoc];simp only[List.length_append,be_length,List.length_cons,List.length_nil];omega
set_option maxHeartbeats 2000000 in
theorem r6_Number (m:Nat) (s:ByteArray) (vs:List Value) (Ps:List (List Nat)) (B O C:Nat) (hm:m<B256) (h0:0<m) (hP:∀ X∈Ps,∀ x∈X,x<256) (hb:(hBytes (strB s) Ps).length≤137438953472) (hv0:0<vs.length) :
    Fn Tryz.prog 137 [numV m,.string s,.slice (some ⟨B,O,none⟩) vs.length C] (fun w=>Seg w B O vs∧Parts vs Ps w) (Is (.tuple #[numV (hNum m (strB s) Ps),.int .i64 0])):=by
  have hne:decide (m=0)=false:=decide_eq_false (by omega)
  have hbN:vs.length=Ps.length→vs.length≤137438953472:=fun h=>by
    have hNs:Ps.length*4≤(hBody Ps).length:=by
      clear hb hP h
      induction Ps with
      | nil=>simp
      | cons X Ps ih=>simp only[hBody,List.flatMap_cons,List.length_append,List.length_cons,be_length] at ih ⊢;omega
    rw[hBytes_len] at hb
    omega
  have hPk:∀ k,k<256→∀ X∈Ps++[[k]],∀ x∈X,x<256:=fun k hk X hX x hx=>by
    rcases List.mem_append.1 hX with hX|hX
    · exact hP X hX x hx
    · simp at hX;subst hX;simp at hx;omega
  have hO:=fun k (hk:k<256) g g' c=>r6_Of s (vs++[.slice (some ⟨g,0,none⟩) 1 1]) (Ps++[[k]]) g' 0 c (hPk k hk) (by rw[hBytes_snoc];omega)
  have hol:=fun k=>hOf_len (strB s) (Ps++[[k]])
  have hol':=fun k=>hOf_len' (strB s) (Ps++[[k]])
  have hob:=fun k=>hOf_lt (strB s) (Ps++[[k]])
  have hres:hNum m (strB s) Ps=(beV (hOf (strB s) (Ps++[[0]]))*B256+beV (hOf (strB s) (Ps++[[1]])))%m:=rfl
  rw[hres]
  have hG0:=fun g=>r_GetLong (hOf (strB s) (Ps++[[0]])) g 0 (hob 0) (hol' 0)
  have hG1:=fun g=>r_GetLong (hOf (strB s) (Ps++[[1]])) g 0 (hob 1) (hol' 1)
  have hWd:=r_Wide (beV (hOf (strB s) (Ps++[[1]]))) (beV (hOf (strB s) (Ps++[[0]]))) m (beV_B256 (hob 1) (hol' 1)) (beV_B256 (hob 0) (hol' 0)) hm h0
  have hO0:=hO 0 (by decide)
  have hO1:=hO 1 (by decide)
  have ho0:=hol 0
  have ho1:=hol 1
  clear hO hol hol' hob hres hPk
  generalize (beV (hOf (strB s) (Ps++[[0]]))*B256+beV (hOf (strB s) (Ps++[[1]])))%m=R at *
  generalize beV (hOf (strB s) (Ps++[[0]]))=V0 at *
  generalize beV (hOf (strB s) (Ps++[[1]]))=V1 at *
  generalize hOf (strB s) (Ps++[[0]])=H0 at *
  generalize hOf (strB s) (Ps++[[1]])=H1 at *
  simp only[List.length_append,List.length_cons,List.length_nil,Nat.zero_add] at hO0 hO1
  refine Fn.enter Tryz.func137 rfl rfl rfl ?_
  intro w hw
  obtain⟨hw1,hw2⟩:=hw
  have hvb:=hbN hw2.1
  have hcu:cut vs (O - O) vs.length=vs:=by rw[Nat.sub_self];exact cut_all rfl
  repeat (first|refine Ta ?_|(refine Tm ?_;intro _)|refine WO.does a_eqNum ?_|refine Tc ?_|exact Tz)
  rw[hne]
  repeat (first|refine Ta ?_|(refine Tm ?_;intro _)|refine Tc ?_|exact Tz)
  refine WO.news (app_new (z:=[Value.slice none 0 0]) (n:=vs.length) rfl rfl (ys:=[]) Rds.nil rfl (Rds.seg hw1 (Nat.le_refl _) (by simp) hcu) (by simp) (by omega) (by omega) (growslice_fits (by omega) (by omega)) (by decide) rfl) (fun x hx=>?_)
  obtain⟨hx1,hx2⟩:=hx
  generalize x 0=gA at *
  generalize x 1=cA at *
  rw[Nat.zero_add] at hx1
  rw[Nat.zero_add,List.nil_append]
  repeat (first|refine Ta ?_|(refine Tm ?_;intro _)|(refine WO.makes (makes_build (cs:=[.int .u8 0]) rfl (by decide) rfl) ?_;intro _)|(refine WO.makes (makes_build (t:=113) (cs:=[_]) rfl (by decide) rfl) ?_;intro _)|refine Tc ?_|exact Tz)
  rename_i gB gP
  refine WO.appB (g:=gA) (z0:=Value.slice none 0 0) (xs:=vs) (r:=mkz (cA - vs.length) [Value.slice none 0 0]) (ys:=[.slice (some ⟨gB,0,none⟩) 1 1]) (m:=1) (l:=vs.length+1) rfl rfl rfl (by rw[List.length_append,mkz_length];simp;omega) (by repeat (first|exact Pk.here|apply Pk.there)) (Rds.own (m:=1) Hs.here rfl) rfl rfl rfl (by omega) hx2 (by omega) (by decide) (by decide) (fun g' c' r' hd1 hd2=>?_)
  refine WO.acallR (hc:=hO0 gB g' c') (hR:=fun w1 hm=>⟨Seg.left (Hs.seg (by repeat (first|exact Hs.here|apply Hs.there)) hm),Parts.snoc (RdP.own0 (X:=[0]) (t:=5) hm (by repeat (first|exact Hs.here|apply Hs.there)) (by decide) (by decide)) (hw2.mod hm.mod (by simp))⟩) (k:=?_)
  repeat (first|refine WO.stores (a_store (vs:=byC H0) (cs':=byC H0) (hl:=ho0) (h1:=byC_one _) (hc:=over_all (by rw[ho0];rfl)) (hle:=by rw[ho0];rfl)) ?_|refine Ta ?_|(refine Tm ?_;intro _)|refine Tc ?_|exact Tz)
  refine WO.news (app_new (z:=[Value.slice none 0 0]) (n:=vs.length) rfl rfl (ys:=[]) Rds.nil rfl (Rds.seg hw1 (Nat.le_refl _) (by simp) hcu) (by simp) (by omega) (by omega) (growslice_fits (by omega) (by omega)) (by decide) rfl) (fun x hx=>?_)
  obtain⟨hx1,hx2⟩:=hx
  generalize x 0=gA at *
  generalize x 1=cA at *
  rw[Nat.zero_add] at hx1
  rw[Nat.zero_add,List.nil_append]
  repeat (first|refine Ta ?_|(refine Tm ?_;intro _)|(refine WO.makes (makes_build (cs:=[.int .u8 1]) rfl (by decide) rfl) ?_;intro _)|(refine WO.makes (makes_build (t:=113) (cs:=[_]) rfl (by decide) rfl) ?_;intro _)|refine Tc ?_|exact Tz)
  rename_i gB gP
  refine WO.appB (g:=gA) (z0:=Value.slice none 0 0) (xs:=vs) (r:=mkz (cA - vs.length) [Value.slice none 0 0]) (ys:=[.slice (some ⟨gB,0,none⟩) 1 1]) (m:=1) (l:=vs.length+1) rfl rfl rfl (by rw[List.length_append,mkz_length];simp;omega) (by repeat (first|exact Pk.here|apply Pk.there)) (Rds.own (m:=1) Hs.here rfl) rfl rfl rfl (by omega) hx2 (by omega) (by decide) (by decide) (fun g' c' r' hd1 hd2=>?_)
  refine WO.acallR (hc:=hO1 gB g' c') (hR:=fun w1 hm=>⟨Seg.left (Hs.seg (by repeat (first|exact Hs.here|apply Hs.there)) hm),Parts.snoc (RdP.own0 (X:=[1]) (t:=5) hm (by repeat (first|exact Hs.here|apply Hs.there)) (by decide) (by decide)) (hw2.mod hm.mod (by simp))⟩) (k:=?_)
  repeat (first|refine WO.stores (a_store (vs:=byC H1) (cs':=byC H1) (hl:=ho1) (h1:=byC_one _) (hc:=over_all (by rw[ho1];rfl)) (hle:=by rw[ho1];rfl)) ?_|refine Ta ?_|(refine Tm ?_;intro _)|refine Tc ?_|exact Tz)
  repeat (first|refine Ta ?_|(refine Tm ?_;intro _)|refine WO.does (does_sliceA rfl) ?_|refine WO.acallR (hc:=hG0 _) (hR:=fun w1 hm=>Hs.seg (by repeat (first|exact Hs.here|apply Hs.there)) hm) (k:=?_)|refine Tc ?_|exact Tz)
  repeat (first|refine Ta ?_|(refine Tm ?_;intro _)|refine WO.does (does_sliceA rfl) ?_|refine WO.acallR (hc:=hG1 _) (hR:=fun w1 hm=>Hs.seg (by repeat (first|exact Hs.here|apply Hs.there)) hm) (k:=?_)|refine WO.acall (hc:=hWd) (k:=?_)|refine Tc ?_|exact Tz)
end Sx
end Go.Proofs.YtmhligfnchegdaaGreatDoor
namespace Go.Proofs.YtmhligfnchegdaaGreatDoor
open Go Go.RowKit
namespace Sx
attribute [local irreducible] DQ DQS WO WC WX
def wds (q:Nat):List Nat:=[wd 0 q,wd 1 q,wd 2 q,wd 3 q]
theorem low_room {T p t s:Nat} (hT:T=2*p*t) (hs:18446744073709551616=2*p*s) (hp:0<p):T%18446744073709551616+p<18446744073709551616:=by
  have hs0:0<s:=by
    rcases Nat.eq_zero_or_pos s with h|h
    · rw[h] at hs;omega
    · exact h
  have h1:T%18446744073709551616=2*p*(t%s):=by rw[hT,hs,Nat.mul_mod_mul_left]
  have h2:t%s+1≤s:=Nat.mod_lt _ hs0
  have h3:2*p*(t%s+1)≤2*p*s:=Nat.mul_le_mul_left _ h2
  rw[Nat.mul_add,Nat.mul_one] at h3
  omega
theorem setbit {q i:Nat} (hi:i<256) (hq:2 ^ (i+1) ∣ q) :
    (wds q).set (i / 64) ((wds q).getD (i / 64) 0+1*2 ^ (i%64))=wds (q+2 ^ i)∧(wds q).getD (i / 64) 0+1*2 ^ (i%64)<18446744073709551616:=by
  obtain⟨t,ht⟩:=hq
  have hr:i%64<64:=Nat.mod_lt _ (by decide)
  have e1:2 ^ i=18446744073709551616 ^ (i / 64)*2 ^ (i%64):=by
    rw[show (18446744073709551616:Nat)=2 ^ 64 by decide,← Nat.pow_mul,← Nat.pow_add]
    congr 1;omega
  have e2:q=18446744073709551616 ^ (i / 64)*(2*2 ^ (i%64)*t):=by
    rw[ht,Nat.pow_succ,e1]
    simp only[Nat.mul_assoc,Nat.mul_left_comm,Nat.mul_comm]
  have hs:18446744073709551616=2*2 ^ (i%64)*2 ^ (63 - i%64):=by
    rw[Nat.mul_assoc,← Nat.pow_add,show i%64+(63 - i%64)=63 by omega]
  have hF:=low_room (T:=2*2 ^ (i%64)*t) rfl hs (Nat.two_pow_pos _)
  have hk:i / 64<4:=by omega
  rw[e1,e2]
  generalize 2*2 ^ (i%64)*t=T at *
  generalize 2 ^ (i%64)=p at *
  generalize i / 64=k at *
  clear e1 e2 ht hs hr hi
  match k,hk with
  | 0,_|1,_|2,_|3,_ =>
    simp only[wds,wd,List.set_cons_zero,List.set_cons_succ,List.getD_cons_zero,List.getD_cons_succ,Nat.reducePow,List.cons.injEq,and_true]
    omega
  | n+4,h=>omega
theorem twice_div {r b m:Nat} (hr:r<m) (hb:b≤1) (hm:m<B256) :
    ((r+r) / B256=0∧cmpN ((r+r)%B256+b) m = -1→(2*r+b) / m=0) ∧
    ((r+r) / B256=1∨cmpN ((r+r)%B256+b) m=0∨cmpN ((r+r)%B256+b) m=1→(2*r+b) / m=1):=by
  have h0:0<m:=by omega
  have hle:(r+r)%B256≤r+r:=Nat.mod_le _ _
  refine⟨fun ⟨h1,h2⟩=>?_,fun h=>?_⟩
  · have hl:r+r<B256:=by
      rcases Nat.lt_or_ge (r+r) B256 with h|h
      · exact h
      · have:=Nat.div_pos h B256_zero;omega
    rw[Nat.mod_eq_of_lt hl] at h2
    refine Nat.div_eq_of_lt ?_
    unfold cmpN at h2
    split at h2
    · simp at h2
    · split at h2
      · omega
      · simp at h2
  · have hge:m≤2*r+b:=by
      rcases h with h|h|h
      · have:=Nat.div_mul_le_self (r+r) B256
        rw[h] at this;omega
      · unfold cmpN at h
        split at h
        · omega
        · split at h<;>simp at h
      · unfold cmpN at h
        split at h
        · omega
        · split at h
          · simp at h
          · omega
    rw[Nat.div_eq_iff h0];omega
theorem quo_step (a b i:Nat) (hb:0<b):a / 2 ^ i / b*2 ^ i=a / 2 ^ (i+1) / b*2 ^ (i+1)+(2*(a / 2 ^ (i+1)%b)+bitN a i) / b*2 ^ i:=by
  rw[bit_step a i]
  generalize a / 2 ^ (i+1)=A
  have e:2*A+bitN a i=b*(2*(A / b))+(2*(A%b)+bitN a i):=by
    have:=Nat.div_add_mod A b
    rw[Nat.mul_left_comm];omega
  rw[e,Nat.mul_add_div hb,Nat.add_mul,Nat.pow_succ]
  congr 1
  rw[Nat.mul_comm 2,Nat.mul_assoc,Nat.mul_comm 2]
set_option maxHeartbeats 1000000 in
theorem r_DivW (a b:Nat) (ha:a<18446744073709551616) (hb:b<18446744073709551616) (h0:0<b):Fn Tryz.prog 256 [numV a,numV b] Tr (Is (.tuple #[numV (a / b),numV (a%b),.int .i64 0])):=by
  have haB:=B256_of ha
  have hbB:=B256_of hb
  have hW1:=r_Word a haB
  have hW2:=r_Word b hbB
  rw[decide_eq_true ha] at hW1
  rw[decide_eq_true hb] at hW2
  have hne:decide (b=0)=false:=decide_eq_false (by omega)
  have wa:wd 0 a=a:=Nat.mod_eq_of_lt ha
  have wb:wd 0 b=b:=Nat.mod_eq_of_lt hb
  have q1:=quo_u64 (wd 0 a) (wd 0 b) (wd_lt _ _)
  have r1:=rem_nat (wd 0 a) (wd 0 b)
  have hn0:((wd 0 b:Nat):Int)≠0:=by rw[wb];omega
  rw[show a / b=wd 0 a / wd 0 b by rw[wa,wb],show a%b=wd 0 a%wd 0 b by rw[wa,wb]]
  have hO1:=r_Of (wd 0 a / wd 0 b) (by rw[wa,wb];exact Nat.lt_of_le_of_lt (Nat.div_le_self _ _) ha)
  have hO2:=r_Of (wd 0 a%wd 0 b) (by rw[wa,wb];exact Nat.lt_of_le_of_lt (Nat.mod_le _ _) ha)
  generalize wd 0 a / wd 0 b=Q at *
  generalize wd 0 a%wd 0 b=R at *
  refine Fn.enter Tryz.func256 rfl rfl rfl ?_
  intro w hw
  repeat (first|refine Ta ?_|(refine Tm ?_;intro _)|refine WO.does a_eqNum ?_|refine Tc ?_|exact Tz)
  rw[hne]
  repeat (first|refine Ta ?_|(refine Tm ?_;intro _)|refine WO.acall (hc:=hW1) (k:=?_)|refine WO.acall (hc:=hW2) (k:=?_)|refine Tc ?_|exact Tz)
  refine WC.adraw 12 (k:=?_)
  repeat (first|refine Da ?_|refine DQ.does (fun s _=>does_quo rfl rfl hn0 q1) Dp.const ?_|refine DQ.does (fun s _=>does_rem rfl rfl hn0 r1) Dp.const ?_|refine DQ.acall (hc:=hO1) (k:=?_)|refine DQ.acall (hc:=hO2) (k:=?_)|refine Dc ?_)
  refine DQ.anil (k:=?_)
  intro sx _
  repeat (first|refine Ta ?_|(refine Tm ?_;intro _)|refine Tc ?_|exact Tz)
set_option maxHeartbeats 2000000 in
theorem r_DivL (a b:Nat) (ha:a<B256) (hb:b<B256) (h0:0<b) (hs:¬ (a<18446744073709551616∧b<18446744073709551616)):Fn Tryz.prog 256 [numV a,numV b] Tr (Is (.tuple #[numV (a / b),numV (a%b),.int .i64 0])):=by
  have hW1:=r_Word a ha
  have hW2:=r_Word b hb
  have hne:decide (b=0)=false:=decide_eq_false (by omega)
  have hB1:=fun i (hi2:i<256)=>r_Bit a i ha hi2
  have hAdd:=fun (r:Nat) (hr:r<b)=>r_Add r r (by omega) (by omega)
  have hCmp:=fun (y:Nat) (hy:y<B256)=>r_Cmp y b hy hb
  have hSub:=fun (y:Nat) (hy:y<B256)=>r_Sub y b hy hb
  have hs1:=fun i=>bit_step a i
  have hq1:=fun i=>quo_step a b i h0
  have htop:a / 2 ^ 256=0:=Nat.div_eq_of_lt (by rw[← B256_pow];exact ha)
  have hbt:=fun i=>bitN_le a i
  refine Fn.enter Tryz.func256 rfl rfl rfl ?_
  intro w hw
  repeat (first|refine Ta ?_|(refine Tm ?_;intro _)|refine WO.does a_eqNum ?_|refine Tc ?_|exact Tz)
  rw[hne]
  repeat (first|refine Te ?_|(refine Tm ?_;intro _)|refine Tc ?_|exact Tz)
  rename_i g2 g3 g4 g5
  refine WX.seq ?_
  refine WC.joinI (σ:=Unit) (fun _=>True) (fun _=>[(2,pt g2),(3,pt g3),(4,pt g4),(5,pt g5),(6,.int .i64 0)]) (fun _=>[⟨g2,24,numC a⟩,⟨g3,24,numC b⟩,⟨g4,24,numC 0⟩,⟨g5,24,numC 0⟩]) ?_ (fun _ _=>?_)
  · by_cases h1:a<18446744073709551616
    · rw[decide_eq_true h1] at hW1
      rw[decide_eq_false (fun h2=>hs ⟨h1,h2⟩)] at hW2
      repeat (first|refine Ta ?_|(refine Tm ?_;intro _)|refine WO.acall (hc:=hW1) (k:=?_)|refine WO.acall (hc:=hW2) (k:=?_)|refine Tc ?_|exact Tz)
      exact WX.metI () (hs:=trivial)
    · rw[decide_eq_false h1] at hW1
      repeat (first|refine Ta ?_|(refine Tm ?_;intro _)|refine WO.acall (hc:=hW1) (k:=?_)|refine WO.acall (hc:=hW2) (k:=?_)|refine Tc ?_|exact Tz)
      exact WX.metI () (hs:=trivial)
  clear hW1 hW2 hs
  repeat (first|refine Ta ?_|(refine Tm ?_;intro _)|refine Tc ?_|exact Tz)
  rename_i g7 g8
  refine WC.loopI (σ:=Nat) (fun j=>j≤256) (fun j=>[(2,pt g2),(3,pt g3),(4,pt g4),(5,pt g5),(6,.int .i64 0),(7,pt g7),(8,pt g8),(9,.int .i64 ((j:Int) - 1))]) (fun j=>[⟨g2,24,numC a⟩,⟨g3,24,numC b⟩,⟨g4,24,numC 0⟩,⟨g5,24,numC 0⟩,⟨g7,24,woC (wds (a / 2 ^ j / b*2 ^ j))⟩,⟨g8,24,numC (a / 2 ^ j%b)⟩]) (fun j=>j) 256 (fun j hj=>?_) (Nat.le_refl _) (by repeat (first|exact Kle.nil|refine Kle.cons rfl rfl ?_)) (by
      rw[htop,Nat.zero_div,Nat.zero_mod,Nat.zero_mul]
      repeat (first|exact Lle.nil|refine Lle.cons (by repeat (first|exact Pk.here|apply Pk.there)) rfl ?_))
  try dsimp only at hj ⊢
  cases j with
  | zero =>
    rw[Nat.pow_zero,Nat.div_one,Nat.mul_one]
    generalize a / b=Q at *
    generalize a%b=R at *
    refine WC.keep [(2,pt g2),(3,pt g3),(4,pt g4),(5,pt g5),(6,.int .i64 0),(7,pt g7),(8,pt g8),(9,.int .i64 (((0:Nat):Int) - 1))] [⟨g2,24,numC a⟩,⟨g3,24,numC b⟩,⟨g4,24,numC 0⟩,⟨g5,24,numC 0⟩,⟨g7,24,numC Q⟩,⟨g8,24,numC R⟩] ?_
    repeat (first|refine Ta ?_|(refine Tm ?_;intro _)|refine Tc ?_|exact Tz)
    refine WC.adrawS [1] [(1,[⟨g8,24,numC R⟩])] 2 (k:=?_)
    repeat (first|refine DQS.skip ?_|refine DQS.autoM (k:=?_)|refine DQS.autoH (k:=?_)|refine DQS.auto (k:=?_)|refine DQS.autoF (k:=?_)|refine DQS.does (fun s _=>a_eqNum) Dp.const ?_|refine DQS.does (fun s _=>a_neqNum) Dp.const ?_)
    refine DQS.anil (k:=?_)
    intro sx _
    repeat (first|refine WOS.autoS (kk:=?_)|refine WOS.auto (kk:=?_))
    refine WOS.nil ?_
    refine WX.noPanic ?_
    repeat (first|refine Ta ?_|(refine Tm ?_;intro _)|refine Tc ?_|exact Tz)
  | succ i =>
    have hr:a / 2 ^ (i+1)%b<b:=Nat.mod_lt _ h0
    have h1:=hB1 i (by omega)
    have hA:=hAdd _ hr
    have hc:=twice_cases hr (hbt i) hb
    have hd:=twice_div hr (hbt i) hb
    have hm:(2*(a / 2 ^ (i+1)%b)+bitN a i)%b=a / 2 ^ i%b:=by rw[mod_twice,← hs1 i]
    rw[hm] at hc
    have hq:=hq1 i
    have hdv:2 ^ (i+1) ∣ a / 2 ^ (i+1) / b*2 ^ (i+1):=Nat.dvd_mul_left _ _
    obtain⟨hset,hlt⟩:=setbit (by omega:i<256) hdv
    have hXl:(a / 2 ^ (i+1)%b+a / 2 ^ (i+1)%b)%B256<B256:=Nat.mod_lt _ B256_zero
    obtain⟨w0,e0,e1,e2,e3,hY⟩:=even_words hXl (twice_even _) (hbt i)
    have hC:=hCmp _ hY
    have hS:=hSub _ hY
    have ha1:=add_u64 (wd 0 ((a / 2 ^ (i+1)%b+a / 2 ^ (i+1)%b)%B256)) (bitN a i) w0
    rw[← e0] at ha1
    have hq64:=quo_i64 i 64 (by omega)
    have hr64:=rem_nat i 64
    have hsh:=shl_u64 1 (i%64) (by omega) (by omega)
    have ha2:=add_u64 ((wds (a / 2 ^ (i+1) / b*2 ^ (i+1))).getD (i / 64) 0) (1*2 ^ (i%64)) hlt
    have hwl:(wds (a / 2 ^ (i+1) / b*2 ^ (i+1))).length=4:=rfl
    rw[show (((i+1:Nat):Int) - 1)=(i:Int) by omega]
    clear hs1 hq1 htop hbt hB1 hAdd hCmp hSub hm hdv hlt w0 hne
    generalize (2*(a / 2 ^ (i+1)%b)+bitN a i) / b=dq at *
    generalize hRo:a / 2 ^ (i+1)%b=R at *
    generalize hRn:a / 2 ^ i%b=R' at *
    generalize hQn:a / 2 ^ i / b*2 ^ i=Q' at *
    generalize hQo:a / 2 ^ (i+1) / b*2 ^ (i+1)=Q at *
    generalize bitN a i=bt at *
    generalize (R+R) / B256=c at *
    generalize ((R+R)%B256+bt+B256 - b)%B256=y at *
    generalize bw ((R+R)%B256+bt) b 0=l at *
    generalize (R+R)%B256+bt=Y at *
    generalize (R+R)%B256=X at *
    generalize hW0:wds Q=W at *
    simp only[numV] at hA
    rw[← e1,← e2,← e3] at hA
    rcases hc with ⟨rfl,h2,rfl⟩|⟨rfl,rfl⟩|⟨rfl,h2|h2,rfl⟩
    · have hq' : Q'=Q:=by rw[hq,hd.1 ⟨rfl,h2⟩,Nat.zero_mul,Nat.add_zero]
      rw[h2] at hC
      repeat (first|refine Ta ?_|(refine Tm ?_;intro _)|refine WO.acall (hc:=hA) (k:=?_)|refine Tc ?_|exact Tz)
      refine WC.adraw 7 (k:=?_)
      repeat (first|refine Da ?_|refine DQ.acall (hc:=h1) (k:=?_)|refine DQ.does (fun s _=>does_add rfl rfl ha1) Dp.const ?_|refine Dc ?_)
      refine DQ.anil (k:=?_)
      intro sx _
      repeat (first|refine Ta ?_|(refine Tm ?_;intro _)|refine WO.acall (hc:=hC) (k:=?_)|refine WO.acall (hc:=hS) (k:=?_)|refine Tc ?_|exact Tz)
      refine WX.metI i (hl:=(by repeat (first|exact Lle.nil|refine Lle.cons (by repeat (first|exact Pk.here|apply Pk.there)) (by first|rfl|(rw[hRn])|(rw[hQn,hq',hW0])) ?_))) (hs:=⟨by omega,by show i<i+1;omega⟩)
    · have hq' : Q'=Q+2 ^ i:=by rw[hq,hd.2 (.inl rfl),Nat.one_mul]
      repeat (first|refine Ta ?_|(refine Tm ?_;intro _)|refine WO.acall (hc:=hA) (k:=?_)|refine Tc ?_|exact Tz)
      refine WC.adraw 7 (k:=?_)
      repeat (first|refine Da ?_|refine DQ.acall (hc:=h1) (k:=?_)|refine DQ.does (fun s _=>does_add rfl rfl ha1) Dp.const ?_|refine Dc ?_)
      refine DQ.anil (k:=?_)
      intro sx _
      repeat (first|refine Ta ?_|(refine Tm ?_;intro _)|refine WO.acall (hc:=hC) (k:=?_)|refine WO.acall (hc:=hS) (k:=?_)|refine Tc ?_|exact Tz)
      refine WC.adraw 11 (k:=?_)
      repeat (first|refine Da ?_|refine DQ.does (fun s _=>does_quo rfl rfl (by decide) hq64) Dp.const ?_|refine DQ.does (fun s _=>l_word (hi:=by omega)) Dp.const ?_|refine DQ.does (fun s _=>does_rem rfl rfl (by decide) hr64) Dp.const ?_|refine DQ.does (fun s _=>does_shl rfl rfl (by omega) hsh) Dp.const ?_|refine DQ.does (fun s _=>does_add rfl rfl ha2) Dp.const ?_|refine Dc ?_)
      refine DQ.anil (k:=?_)
      intro sx _
      repeat (first|refine Ta ?_|(refine Tm ?_;intro _)|refine WO.stores (s_word (hi:=by omega)) ?_|refine Tc ?_|exact Tz)
      rw[hset]
      refine WX.metI i (hl:=(by repeat (first|exact Lle.nil|refine Lle.cons (by repeat (first|exact Pk.here|apply Pk.there)) (by first|rfl|(rw[hRn])|(rw[hQn,hq'])) ?_))) (hs:=⟨by omega,by show i<i+1;omega⟩)
    · have hq' : Q'=Q+2 ^ i:=by rw[hq,hd.2 (.inr (.inl h2)),Nat.one_mul]
      rw[h2] at hC
      repeat (first|refine Ta ?_|(refine Tm ?_;intro _)|refine WO.acall (hc:=hA) (k:=?_)|refine Tc ?_|exact Tz)
      refine WC.adraw 7 (k:=?_)
      repeat (first|refine Da ?_|refine DQ.acall (hc:=h1) (k:=?_)|refine DQ.does (fun s _=>does_add rfl rfl ha1) Dp.const ?_|refine Dc ?_)
      refine DQ.anil (k:=?_)
      intro sx _
      repeat (first|refine Ta ?_|(refine Tm ?_;intro _)|refine WO.acall (hc:=hC) (k:=?_)|refine WO.acall (hc:=hS) (k:=?_)|refine Tc ?_|exact Tz)
      refine WC.adraw 11 (k:=?_)
      repeat (first|refine Da ?_|refine DQ.does (fun s _=>does_quo rfl rfl (by decide) hq64) Dp.const ?_|refine DQ.does (fun s _=>l_word (hi:=by omega)) Dp.const ?_|refine DQ.does (fun s _=>does_rem rfl rfl (by decide) hr64) Dp.const ?_|refine DQ.does (fun s _=>does_shl rfl rfl (by omega) hsh) Dp.const ?_|refine DQ.does (fun s _=>does_add rfl rfl ha2) Dp.const ?_|refine Dc ?_)
      refine DQ.anil (k:=?_)
      intro sx _
      repeat (first|refine Ta ?_|(refine Tm ?_;intro _)|refine WO.stores (s_word (hi:=by omega)) ?_|refine Tc ?_|exact Tz)
      rw[hset]
      refine WX.metI i (hl:=(by repeat (first|exact Lle.nil|refine Lle.cons (by repeat (first|exact Pk.here|apply Pk.there)) (by first|rfl|(rw[hRn])|(rw[hQn,hq'])) ?_))) (hs:=⟨by omega,by show i<i+1;omega⟩)
    · have hq' : Q'=Q+2 ^ i:=by rw[hq,hd.2 (.inr (.inr h2)),Nat.one_mul]
      rw[h2] at hC
      repeat (first|refine Ta ?_|(refine Tm ?_;intro _)|refine WO.acall (hc:=hA) (k:=?_)|refine Tc ?_|exact Tz)
      refine WC.adraw 7 (k:=?_)
      repeat (first|refine Da ?_|refine DQ.acall (hc:=h1) (k:=?_)|refine DQ.does (fun s _=>does_add rfl rfl ha1) Dp.const ?_|refine Dc ?_)
      refine DQ.anil (k:=?_)
      intro sx _
      repeat (first|refine Ta ?_|(refine Tm ?_;intro _)|refine WO.acall (hc:=hC) (k:=?_)|refine WO.acall (hc:=hS) (k:=?_)|refine Tc ?_|exact Tz)
      refine WC.adraw 11 (k:=?_)
      repeat (first|refine Da ?_|refine DQ.does (fun s _=>does_quo rfl rfl (by decide) hq64) Dp.const ?_|refine DQ.does (fun s _=>l_word (hi:=by omega)) Dp.const ?_|refine DQ.does (fun s _=>does_rem rfl rfl (by decide) hr64) Dp.const ?_|refine DQ.does (fun s _=>does_shl rfl rfl (by omega) hsh) Dp.const ?_|refine DQ.does (fun s _=>does_add rfl rfl ha2) Dp.const ?_|refine Dc ?_)
      refine DQ.anil (k:=?_)
      intro sx _
      repeat (first|refine Ta ?_|(refine Tm ?_;intro _)|refine WO.stores (s_word (hi:=by omega)) ?_|refine Tc ?_|exact Tz)
      rw[hset]
      refine WX.metI i (hl:=(by repeat (first|exact Lle.nil|refine Lle.cons (by repeat (first|exact Pk.here|apply Pk.there)) (by first|rfl|(rw[hRn])|(rw[hQn,hq'])) ?_))) (hs:=⟨by omega,by show i<i+1;omega⟩)
end Sx
end Go.Proofs.YtmhligfnchegdaaGreatDoor
