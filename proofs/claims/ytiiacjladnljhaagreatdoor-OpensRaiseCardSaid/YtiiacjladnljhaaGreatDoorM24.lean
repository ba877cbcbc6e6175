/- Part 24 of the proof: RfW, RfJ, RfK, RfL -/
import Derived.Test.YtiiacjladnljhaaGreatDoorM22
import Derived.Test.YtiiacjladnljhaaGreatDoorM23
import Derived.Test.YtiiacjladnljhaaGreatDoorM21
set_option linter.unusedSimpArgs false
set_option linter.unusedVariables false
namespace Go.Proofs.YtiiacjladnljhaaGreatDoor
open Go Go.RowKit Go.BigFrame
namespace Sx
attribute [local irreducible] wd DQ DQS WO WC WX
end Sx
end Go.Proofs.YtiiacjladnljhaaGreatDoor
namespace Go.Proofs.YtiiacjladnljhaaGreatDoor
open Go Go.RowKit
namespace Sx
attribute [local irreducible] DQ DQS WO WC WX
def wds (q:Nat):List Nat:=[wd 0 q,wd 1 q,wd 2 q,wd 3 q]
theorem low_room {T p t s:Nat} (hT:T=2*p*t) (hs:18446744073709551616=2*p*s) (hp:0<p):T%18446744073709551616+p<18446744073709551616:=by
  have hs0:0<s:=by
    rcases Nat.eq_zero_or_pos s with h|h
    · rw[h] at hs;omega
    · exact h
  have h1:T%18446744073709551616=2*p*(t%s):=by rw[hT,hs,Nat.mul_mod_mul_left]
  have h2:t%s+1≤s:=Nat.mod_lt _ hs0
  have h3:2*p*(t%s+1)≤2*p*s:=Nat.mul_le_mul_left _ h2
  rw[Nat.mul_add,Nat.mul_one] at h3
  omega
theorem setbit {q i:Nat} (hi:i<256) (hq:2 ^ (i+1) ∣ q) :
    (wds q).set (i / 64) ((wds q).getD (i / 64) 0+1*2 ^ (i%64))=wds (q+2 ^ i)∧(wds q).getD (i / 64) 0+1*2 ^ (i%64)<18446744073709551616:=by
  obtain⟨t,ht⟩:=hq
  have hr:i%64<64:=Nat.mod_lt _ (by decide)
  have e1:2 ^ i=18446744073709551616 ^ (i / 64)*2 ^ (i%64):=by
    rw[show (18446744073709551616:Nat)=2 ^ 64 by decide,← Nat.pow_mul,← Nat.pow_add]
    congr 1;omega
  have e2:q=18446744073709551616 ^ (i / 64)*(2*2 ^ (i%64)*t):=by
    rw[ht,Nat.pow_succ,e1]
    simp only[Nat.mul_assoc,Nat.mul_left_comm,Nat.mul_comm]
  have hs:18446744073709551616=2*2 ^ (i%64)*2 ^ (63 - i%64):=by
    rw[Nat.mul_assoc,← Nat.pow_add,show i%64+(63 - i%64)=63 by omega]
  have hF:=low_room (T:=2*2 ^ (i%64)*t) rfl hs (Nat.two_pow_pos _)
  have hk:i / 64<4:=by omega
  rw[e1,e2]
  generalize 2*2 ^ (i%64)*t=T at *
  generalize 2 ^ (i%64)=p at *
  generalize i / 64=k at *
  clear e1 e2 ht hs hr hi
  match k,hk with
  | 0,_|1,_|2,_|3,_ =>
    simp only[wds,wd,List.set_cons_zero,List.set_cons_succ,List.getD_cons_zero,List.getD_cons_succ,Nat.reducePow,List.cons.injEq,and_true]
    omega
  | n+4,h=>omega
theorem twice_div {r b m:Nat} (hr:r<m) (hb:b≤1) (hm:m<B256) :
    ((r+r) / B256=0∧cmpN ((r+r)%B256+b) m = -1→(2*r+b) / m=0) ∧
    ((r+r) / B256=1∨cmpN ((r+r)%B256+b) m=0∨cmpN ((r+r)%B256+b) m=1→(2*r+b) / m=1):=by
  have h0:0<m:=by omega
  have hle:(r+r)%B256≤r+r:=Nat.mod_le _ _
  refine⟨fun ⟨h1,h2⟩=>?_,fun h=>?_⟩
  · have hl:r+r<B256:=by
      rcases Nat.lt_or_ge (r+r) B256 with h|h
      · exact h
      · have:=Nat.div_pos h B256_zero;omega
    rw[Nat.mod_eq_of_lt hl] at h2
    refine Nat.div_eq_of_lt ?_
    unfold cmpN at h2
    split at h2
    · simp at h2
    · split at h2
      · omega
      · simp at h2
  · have hge:m≤2*r+b:=by
      rcases h with h|h|h
      · have:=Nat.div_mul_le_self (r+r) B256
        rw[h] at this;omega
      · unfold cmpN at h
        split at h
        · omega
        · split at h<;>simp at h
      · unfold cmpN at h
        split at h
        · omega
        · split at h
          · simp at h
          · omega
    rw[Nat.div_eq_iff h0];omega
theorem quo_step (a b i:Nat) (hb:0<b):a / 2 ^ i / b*2 ^ i=a / 2 ^ (i+1) / b*2 ^ (i+1)+(2*(a / 2 ^ (i+1)%b)+bitN a i) / b*2 ^ i:=by
  rw[bit_step a i]
  generalize a / 2 ^ (i+1)=A
  have e:2*A+bitN a i=b*(2*(A / b))+(2*(A%b)+bitN a i):=by
    have:=Nat.div_add_mod A b
    rw[Nat.mul_left_comm];omega
  rw[e,Nat.mul_add_div hb,Nat.add_mul,Nat.pow_succ]
  congr 1
  rw[Nat.mul_comm 2,Nat.mul_assoc,Nat.mul_comm 2]
set_option maxHeartbeats 1000000 in
theorem r_DivW (a b:Nat) (ha:a<18446744073709551616) (hb:b<18446744073709551616) (h0:0<b):Fn Tryz.prog 198 [numV a,numV b] Tr (Is (.tuple #[numV (a / b),numV (a%b),.int .i64 0])):=by
  have haB:=B256_of ha
  have hbB:=B256_of hb
  have hW1:=r_Word a haB
  have hW2:=r_Word b hbB
  rw[decide_eq_true ha] at hW1
  rw[decide_eq_true hb] at hW2
  have hne:decide (b=0)=false:=decide_eq_false (by omega)
  have wa:wd 0 a=a:=Nat.mod_eq_of_lt ha
  have wb:wd 0 b=b:=Nat.mod_eq_of_lt hb
  have q1:=quo_u64 (wd 0 a) (wd 0 b) (wd_lt _ _)
  have r1:=rem_nat (wd 0 a) (wd 0 b)
  have hn0:((wd 0 b:Nat):Int)≠0:=by rw[wb];omega
  rw[show a / b=wd 0 a / wd 0 b by rw[wa,wb],show a%b=wd 0 a%wd 0 b by rw[wa,wb]]
  have hO1:=r_Of (wd 0 a / wd 0 b) (by rw[wa,wb];exact Nat.lt_of_le_of_lt (Nat.div_le_self _ _) ha)
  have hO2:=r_Of (wd 0 a%wd 0 b) (by rw[wa,wb];exact Nat.lt_of_le_of_lt (Nat.mod_le _ _) ha)
  generalize wd 0 a / wd 0 b=Q at *
  generalize wd 0 a%wd 0 b=R at *
  refine Fn.enter Tryz.func198 rfl rfl rfl ?_
  intro w hw
  repeat (first|refine Ta ?_|(refine Tm ?_;intro _)|refine WO.does a_eqNum ?_|refine Tc ?_|exact Tz)
  rw[hne]
  repeat (first|refine Ta ?_|(refine Tm ?_;intro _)|refine WO.acall (hc:=hW1) (k:=?_)|refine WO.acall (hc:=hW2) (k:=?_)|refine Tc ?_|exact Tz)
  refine WC.adraw 12 (k:=?_)
  repeat (first|refine Da ?_|refine DQ.does (fun s _=>does_quo rfl rfl hn0 q1) Dp.const ?_|refine DQ.does (fun s _=>does_rem rfl rfl hn0 r1) Dp.const ?_|refine DQ.acall (hc:=hO1) (k:=?_)|refine DQ.acall (hc:=hO2) (k:=?_)|refine Dc ?_)
  refine DQ.anil (k:=?_)
  intro sx _
  repeat (first|refine Ta ?_|(refine Tm ?_;intro _)|refine Tc ?_|exact Tz)
set_option maxHeartbeats 2000000 in
theorem r_DivL (a b:Nat) (ha:a<B256) (hb:b<B256) (h0:0<b) (hs:¬ (a<18446744073709551616∧b<18446744073709551616)):Fn Tryz.prog 198 [numV a,numV b] Tr (Is (.tuple #[numV (a / b),numV (a%b),.int .i64 0])):=by
  have hW1:=r_Word a ha
  have hW2:=r_Word b hb
  have hne:decide (b=0)=false:=decide_eq_false (by omega)
  have hB1:=fun i (hi2:i<256)=>r_Bit a i ha hi2
  have hAdd:=fun (r:Nat) (hr:r<b)=>r_Add r r (by omega) (by omega)
  have hCmp:=fun (y:Nat) (hy:y<B256)=>r_Cmp y b hy hb
  have hSub:=fun (y:Nat) (hy:y<B256)=>r_Sub y b hy hb
  have hs1:=fun i=>bit_step a i
  have hq1:=fun i=>quo_step a b i h0
  have htop:a / 2 ^ 256=0:=Nat.div_eq_of_lt (by rw[← B256_pow];exact ha)
  have hbt:=fun i=>bitN_le a i
  refine Fn.enter Tryz.func198 rfl rfl rfl ?_
  intro w hw
  repeat (first|refine Ta ?_|(refine Tm ?_;intro _)|refine WO.does a_eqNum ?_|refine Tc ?_|exact Tz)
  rw[hne]
  repeat (first|refine Te ?_|(refine Tm ?_;intro _)|refine Tc ?_|exact Tz)
  rename_i g2 g3 g4 g5
  refine WX.seq ?_
  refine WC.joinI (σ:=Unit) (fun _=>True) (fun _=>[(2,pt g2),(3,pt g3),(4,pt g4),(5,pt g5),(6,.int .i64 0)]) (fun _=>[⟨g2,24,numC a⟩,⟨g3,24,numC b⟩,⟨g4,24,numC 0⟩,⟨g5,24,numC 0⟩]) ?_ (fun _ _=>?_)
  · by_cases h1:a<18446744073709551616
    · rw[decide_eq_true h1] at hW1
      rw[decide_eq_false (fun h2=>hs ⟨h1,h2⟩)] at hW2
      repeat (first|refine Ta ?_|(refine Tm ?_;intro _)|refine WO.acall (hc:=hW1) (k:=?_)|refine WO.acall (hc:=hW2) (k:=?_)|refine Tc ?_|exact Tz)
      exact WX.metI () (hs:=trivial)
    · rw[decide_eq_false h1] at hW1
      repeat (first|refine Ta ?_|(refine Tm ?_;intro _)|refine WO.acall (hc:=hW1) (k:=?_)|refine WO.acall (hc:=hW2) (k:=?_)|refine Tc ?_|exact Tz)
      exact WX.metI () (hs:=trivial)
  clear hW1 hW2 hs
  repeat (first|refine Ta ?_|(refine Tm ?_;intro _)|refine Tc ?_|exact Tz)
  rename_i g7 g8
  refine WC.loopI (σ:=Nat) (fun j=>j≤256) (fun j=>[(2,pt g2),(3,pt g3),(4,pt g4),(5,pt g5),(6,.int .i64 0),(7,pt g7),(8,pt g8),(9,.int .i64 ((j:Int) - 1))]) (fun j=>[⟨g2,24,numC a⟩,⟨g3,24,numC b⟩,⟨g4,24,numC 0⟩,⟨g5,24,numC 0⟩,⟨g7,24,woC (wds (a / 2 ^ j / b*2 ^ j))⟩,⟨g8,24,numC (a / 2 ^ j%b)⟩]) (fun j=>j) 256 (fun j hj=>?_) (Nat.le_refl _) (by repeat (first|exact Kle.nil|refine Kle.cons rfl rfl ?_)) (by
      rw[htop,Nat.zero_div,Nat.zero_mod,Nat.zero_mul]
      repeat (first|exact Lle.nil|refine Lle.cons (by repeat (first|exact Pk.here|apply Pk.there)) rfl ?_))
  try dsimp only at hj ⊢
  cases j with
  | zero =>
    rw[Nat.pow_zero,Nat.div_one,Nat.mul_one]
    generalize a / b=Q at *
    generalize a%b=R at *
    refine WC.keep [(2,pt g2),(3,pt g3),(4,pt g4),(5,pt g5),(6,.int .i64 0),(7,pt g7),(8,pt g8),(9,.int .i64 (((0:Nat):Int) - 1))] [⟨g2,24,numC a⟩,⟨g3,24,numC b⟩,⟨g4,24,numC 0⟩,⟨g5,24,numC 0⟩,⟨g7,24,numC Q⟩,⟨g8,24,numC R⟩] ?_
    repeat (first|refine Ta ?_|(refine Tm ?_;intro _)|refine Tc ?_|exact Tz)
    refine WC.adrawS [1] [(1,[⟨g8,24,numC R⟩])] 2 (k:=?_)
    repeat (first|refine DQS.skip ?_|refine DQS.autoM (k:=?_)|refine DQS.autoH (k:=?_)|refine DQS.auto (k:=?_)|refine DQS.autoF (k:=?_)|refine DQS.does (fun s _=>a_eqNum) Dp.const ?_|refine DQS.does (fun s _=>a_neqNum) Dp.const ?_)
    refine DQS.anil (k:=?_)
    intro sx _
    repeat (first|refine WOS.autoS (kk:=?_)|refine WOS.auto (kk:=?_))
    refine WOS.nil ?_
    refine WX.noPanic ?_
    repeat (first|refine Ta ?_|(refine Tm ?_;intro _)|refine Tc ?_|exact Tz)
  | succ i =>
    have hr:a / 2 ^ (i+1)%b<b:=Nat.mod_lt _ h0
    have h1:=hB1 i (by omega)
    have hA:=hAdd _ hr
    have hc:=twice_cases hr (hbt i) hb
    have hd:=twice_div hr (hbt i) hb
    have hm:(2*(a / 2 ^ (i+1)%b)+bitN a i)%b=a / 2 ^ i%b:=by rw[mod_twice,← hs1 i]
    rw[hm] at hc
    have hq:=hq1 i
    have hdv:2 ^ (i+1) ∣ a / 2 ^ (i+1) / b*2 ^ (i+1):=Nat.dvd_mul_left _ _
    obtain⟨hset,hlt⟩:=setbit (by omega:i<256) hdv
    have hXl:(a / 2 ^ (i+1)%b+a / 2 ^ (i+1)%b)%B256<B256:=Nat.mod_lt _ B256_zero
    obtain⟨w0,e0,e1,e2,e3,hY⟩:=even_words hXl (twice_even _) (hbt i)
    have hC:=hCmp _ hY
    have hS:=hSub _ hY
    have ha1:=add_u64 (wd 0 ((a / 2 ^ (i+1)%b+a / 2 ^ (i+1)%b)%B256)) (bitN a i) w0
    rw[← e0] at ha1
    have hq64:=quo_i64 i 64 (by omega)
    have hr64:=rem_nat i 64
    have hsh:=shl_u64 1 (i%64) (by omega) (by omega)
    have ha2:=add_u64 ((wds (a / 2 ^ (i+1) / b*2 ^ (i+1))).getD (i / 64) 0) (1*2 ^ (i%64)) hlt
    have hwl:(wds (a / 2 ^ (i+1) / b*2 ^ (i+1))).length=4:=rfl
    rw[show (((i+1:Nat):Int) - 1)=(i:Int) by omega]
    clear hs1 hq1 htop hbt hB1 hAdd hCmp hSub hm hdv hlt w0 hne
    generalize (2*(a / 2 ^ (i+1)%b)+bitN a i) / b=dq at *
    generalize hRo:a / 2 ^ (i+1)%b=R at *
    generalize hRn:a / 2 ^ i%b=R' at *
    generalize hQn:a / 2 ^ i / b*2 ^ i=Q' at *
    generalize hQo:a / 2 ^ (i+1) / b*2 ^ (i+1)=Q at *
    generalize bitN a i=bt at *
    generalize (R+R) / B256=c at *
    generalize ((R+R)%B256+bt+B256 - b)%B256=y at *
    generalize bw ((R+R)%B256+bt) b 0=l at *
    generalize (R+R)%B256+bt=Y at *
    generalize (R+R)%B256=X at *
    generalize hW0:wds Q=W at *
    simp only[numV] at hA
    rw[← e1,← e2,← e3] at hA
    rcases hc with ⟨rfl,h2,rfl⟩|⟨rfl,rfl⟩|⟨rfl,h2|h2,rfl⟩
    · have hq' : Q'=Q:=by rw[hq,hd.1 ⟨rfl,h2⟩,Nat.zero_mul,Nat.add_zero]
      rw[h2] at hC
      repeat (first|refine Ta ?_|(refine Tm ?_;intro _)|refine WO.acall (hc:=hA) (k:=?_)|refine Tc ?_|exact Tz)
      refine WC.adraw 7 (k:=?_)
      repeat (first|refine Da ?_|refine DQ.acall (hc:=h1) (k:=?_)|refine DQ.does (fun s _=>does_add rfl rfl ha1) Dp.const ?_|refine Dc ?_)
      refine DQ.anil (k:=?_)
      intro sx _
      repeat (first|refine Ta ?_|(refine Tm ?_;intro _)|refine WO.acall (hc:=hC) (k:=?_)|refine WO.acall (hc:=hS) (k:=?_)|refine Tc ?_|exact Tz)
      refine WX.metI i (hl:=(by repeat (first|exact Lle.nil|refine Lle.cons (by repeat (first|exact Pk.here|apply Pk.there)) (by first|rfl|(rw[hRn])|(rw[hQn,hq',hW0])) ?_))) (hs:=⟨by omega,by show i<i+1;omega⟩)
    · have hq' : Q'=Q+2 ^ i:=by rw[hq,hd.2 (.inl rfl),Nat.one_mul]
      repeat (first|refine Ta ?_|(refine Tm ?_;intro _)|refine WO.acall (hc:=hA) (k:=?_)|refine Tc ?_|exact Tz)
      refine WC.adraw 7 (k:=?_)
      repeat (first|refine Da ?_|refine DQ.acall (hc:=h1) (k:=?_)|refine DQ.does (fun s _=>does_add rfl rfl ha1) Dp.const ?_|refine Dc ?_)
      refine DQ.anil (k:=?_)
      intro sx _
      repeat (first|refine Ta ?_|(refine Tm ?_;intro _)|refine WO.acall (hc:=hC) (k:=?_)|refine WO.acall (hc:=hS) (k:=?_)|refine Tc ?_|exact Tz)
      refine WC.adraw 11 (k:=?_)
      repeat (first|refine Da ?_|refine DQ.does (fun s _=>does_quo rfl rfl (by decide) hq64) Dp.const ?_|refine DQ.does (fun s _=>l_word (hi:=by omega)) Dp.const ?_|refine DQ.does (fun s _=>does_rem rfl rfl (by decide) hr64) Dp.const ?_|refine DQ.does (fun s _=>does_shl rfl rfl (by omega) hsh) Dp.const ?_|refine DQ.does (fun s _=>does_add rfl rfl ha2) Dp.const ?_|refine Dc ?_)
      refine DQ.anil (k:=?_)
      intro sx _
      repeat (first|refine Ta ?_|(refine Tm ?_;intro _)|refine WO.stores (s_word (hi:=by omega)) ?_|refine Tc ?_|exact Tz)
      rw[hset]
      refine WX.metI i (hl:=(by repeat (first|exact Lle.nil|refine Lle.cons (by repeat (first|exact Pk.here|apply Pk.there)) (by first|rfl|(rw[hRn])|(rw[hQn,hq'])) ?_))) (hs:=⟨by omega,by show i<i+1;omega⟩)
    · have hq' : Q'=Q+2 ^ i:=by rw[hq,hd.2 (.inr (.inl h2)),Nat.one_mul]
      rw[h2] at hC
      repeat (first|refine Ta ?_|(refine Tm ?_;intro _)|refine WO.acall (hc:=hA) (k:=?_)|refine Tc ?_|exact Tz)
      refine WC.adraw 7 (k:=?_)
      repeat (first|refine Da ?_|refine DQ.acall (hc:=h1) (k:=?_)|refine DQ.does (fun s _=>does_add rfl rfl ha1) Dp.const ?_|refine Dc ?_)
      refine DQ.anil (k:=?_)
      intro sx _
      repeat (first|refine Ta ?_|(refine Tm ?_;intro _)|refine WO.acall (hc:=hC) (k:=?_)|refine WO.acall (hc:=hS) (k:=?_)|refine Tc ?_|exact Tz)
      refine WC.adraw 11 (k:=?_)
      repeat (first|refine Da ?_|refine DQ.does (fun s _=>does_quo rfl rfl (by decide) hq64) Dp.const ?_|refine DQ.does (fun s _=>l_word (hi:=by omega)) Dp.const ?_|refine DQ.does (fun s _=>does_rem rfl rfl (by decide) hr64) Dp.const ?_|refine DQ.does (fun s _=>does_shl rfl rfl (by omega) hsh) Dp.const ?_|refine DQ.does (fun s _=>does_add rfl rfl ha2) Dp.const ?_|refine Dc ?_)
      refine DQ.anil (k:=?_)
      intro sx _
      repeat (first|refine Ta ?_|(refine Tm ?_;intro _)|refine WO.stores (s_word (hi:=by omega)) ?_|refine Tc ?_|exact Tz)
      rw[hset]
      refine WX.metI i (hl:=(by repeat (first|exact Lle.nil|refine Lle.cons (by repeat (first|exact Pk.here|apply Pk.there)) (by first|rfl|(rw[hRn])|(rw[hQn,hq'])) ?_))) (hs:=⟨by omega,by show i<i+1;omega⟩)
    · have hq' : Q'=Q+2 ^ i:=by rw[hq,hd.2 (.inr (.inr h2)),Nat.one_mul]
      rw[h2] at hC
      repeat (first|refine Ta ?_|(refine Tm ?_;intro _)|refine WO.acall (hc:=hA) (k:=?_)|refine Tc ?_|exact Tz)
      refine WC.adraw 7 (k:=?_)
      repeat (first|refine Da ?_|refine DQ.acall (hc:=h1) (k:=?_)|refine DQ.does (fun s _=>does_add rfl rfl ha1) Dp.const ?_|refine Dc ?_)
      refine DQ.anil (k:=?_)
      intro sx _
      repeat (first|refine Ta ?_|(refine Tm ?_;intro _)|refine WO.acall (hc:=hC) (k:=?_)|refine WO.acall (hc:=hS) (k:=?_)|refine Tc ?_|exact Tz)
      refine WC.adraw 11 (k:=?_)
      repeat (first|refine Da ?_|refine DQ.does (fun s _=>does_quo rfl rfl (by decide) hq64) Dp.const ?_|refine DQ.does (fun s _=>l_word (hi:=by omega)) Dp.const ?_|refine DQ.does (fun s _=>does_rem rfl rfl (by decide) hr64) Dp.const ?_|refine DQ.does (fun s _=>does_shl rfl rfl (by omega) hsh) Dp.const ?_|refine DQ.does (fun s _=>does_add rfl rfl ha2) Dp.const ?_|refine Dc ?_)
      refine DQ.anil (k:=?_)
      intro sx _
      repeat (first|refine Ta ?_|(refine Tm ?_;intro _)|refine WO.stores (s_word (hi:=by omega)) ?_|refine Tc ?_|exact Tz)
      rw[hset]
      refine WX.metI i (hl:=(by repeat (first|exact Lle.nil|refine Lle.cons (by repeat (first|exact Pk.here|apply Pk.there)) (by first|rfl|(rw[hRn])|(rw[hQn,hq'])) ?_))) (hs:=⟨by omega,by show i<i+1;omega⟩)
end Sx
end Go.Proofs.YtiiacjladnljhaaGreatDoor
namespace Go.Proofs.YtiiacjladnljhaaGreatDoor
open Go Go.RowKit
namespace Sx
attribute [local irreducible] DQ DQS WO WC WX
theorem r_Div (a b:Nat) (ha:a<B256) (hb:b<B256) (h0:0<b):Fn Tryz.prog 198 [numV a,numV b] Tr (Is (.tuple #[numV (a / b),numV (a%b),.int .i64 0])):=by
  by_cases h:a<18446744073709551616∧b<18446744073709551616
  · exact r_DivW a b h.1 h.2 h0
  · exact r_DivL a b ha hb h0 h
set_option maxHeartbeats 1000000 in
theorem r_Common (a b:Nat) (ha:a<B256) (hb:b<B256):Fn Tryz.prog 271 [numV a,numV b] Tr (Is (numV (Nat.gcd a b))):=by
  have hD:=fun (x y:Nat) hx hy h0=>r_Div x y hx hy h0
  refine Fn.enter Tryz.func271 rfl rfl rfl ?_
  intro w hw
  repeat (first|refine Ta ?_|(refine Tm ?_;intro _)|refine Tc ?_|exact Tz)
  rename_i g2 g3 g4
  refine WC.loopI (σ:=Nat × Nat) (fun s=>s.1<B256∧s.2<B256∧Nat.gcd s.1 s.2=Nat.gcd a b) (fun s=>[(2,pt g2),(3,pt g3),(4,pt g4)]) (fun s=>[⟨g2,24,numC s.1⟩,⟨g3,24,numC s.2⟩,⟨g4,24,numC 0⟩]) (fun s=>s.2) (a,b) (fun s hs=>?_) ⟨ha,hb,rfl⟩
  obtain⟨x,y⟩:=s
  obtain⟨hx,hy,hg⟩:=hs
  dsimp only at hx hy hg ⊢
  by_cases h:y=0
  · have d:decide (y≠0)=false:=by simpa using h
    rw[← hg,h,Nat.gcd_zero_right]
    rw[h] at d
    repeat (first|refine Ta ?_|(refine Tm ?_;intro _)|refine WO.does a_neqNum ?_|refine Tc ?_|exact Tz)
  · have d:decide (y≠0)=true:=by simpa using h
    have h1:=hD x y hx hy (by omega)
    have hm:x%y<y:=Nat.mod_lt _ (by omega)
    have hgg:Nat.gcd y (x%y)=Nat.gcd x y:=by rw[Nat.gcd_comm x y,Nat.gcd_rec y x,Nat.gcd_comm]
    generalize x%y=r at *
    generalize x / y=q at *
    repeat (first|refine Ta ?_|(refine Tm ?_;intro _)|refine WO.does a_neqNum ?_|refine Tc ?_|exact Tz)
    rw[d]
    repeat (first|refine Ta ?_|(refine Tm ?_;intro _)|refine WO.acall (hc:=h1) (k:=?_)|refine Tc ?_|exact Tz)
    refine WX.metI (y,r) (hs:=⟨⟨hy,by show r<B256;omega,by rw[← hg];exact hgg⟩,hm⟩)
theorem r_Of1:Fn Tryz.prog 197 [.int .u64 1] Tr (Is (numV 1)):=r_Of 1 (by decide)
set_option maxHeartbeats 1000000 in
theorem r_May (a b m:Nat) (ha:a<B256) (hb:b<B256) (hm:m<B256):Fn Tryz.prog 209 [numV a,numV b,numV m] Tr (Is (.bool (mayN a b m))):=by
  have hC1:=r_Cmp m 1 hm B256_one'
  have hC2:=r_Cmp a m ha hm
  have hC3:=r_Cmp b m hb hm
  rcases mayN_cases a b m with ⟨h1,h2,h3,hy,e1,e2,e3⟩|⟨hn,hc⟩
  · rw[hy]
    rw[e1] at hC1;rw[e2] at hC2;rw[e3] at hC3
    refine Fn.enter Tryz.func209 rfl rfl rfl ?_
    intro w hw
    repeat (first|refine Ta ?_|(refine Tm ?_;intro _)|refine Tc ?_|exact Tz)
    refine WC.adraw 17 (k:=?_)
    repeat (first|refine Da ?_|refine DQ.acall (hc:=r_Of1) (k:=?_)|refine DQ.acall (hc:=hC1) (k:=?_)|refine DQ.acall (hc:=hC2) (k:=?_)|refine DQ.acall (hc:=hC3) (k:=?_)|refine Dc ?_)
    refine DQ.anil (k:=?_)
    intro sx _
    repeat (first|refine Ta ?_|(refine Tm ?_;intro _)|refine Tc ?_|exact Tz)
  · rw[hn]
    rcases hc with (e1|e1)|⟨e1,e2|e2⟩|⟨e1,e2,e3|e3⟩
    · rw[e1] at hC1
      refine Fn.enter Tryz.func209 rfl rfl rfl ?_
      intro w hw
      repeat (first|refine Ta ?_|(refine Tm ?_;intro _)|refine Tc ?_|exact Tz)
      refine WC.adraw 17 (k:=?_)
      repeat (first|refine Da ?_|refine DQ.acall (hc:=r_Of1) (k:=?_)|refine DQ.acall (hc:=hC1) (k:=?_)|refine DQ.acall (hc:=hC2) (k:=?_)|refine DQ.acall (hc:=hC3) (k:=?_)|refine Dc ?_)
      refine DQ.anil (k:=?_)
      intro sx _
      repeat (first|refine Ta ?_|(refine Tm ?_;intro _)|refine Tc ?_|exact Tz)
    · rw[e1] at hC1
      refine Fn.enter Tryz.func209 rfl rfl rfl ?_
      intro w hw
      repeat (first|refine Ta ?_|(refine Tm ?_;intro _)|refine Tc ?_|exact Tz)
      refine WC.adraw 17 (k:=?_)
      repeat (first|refine Da ?_|refine DQ.acall (hc:=r_Of1) (k:=?_)|refine DQ.acall (hc:=hC1) (k:=?_)|refine DQ.acall (hc:=hC2) (k:=?_)|refine DQ.acall (hc:=hC3) (k:=?_)|refine Dc ?_)
      refine DQ.anil (k:=?_)
      intro sx _
      repeat (first|refine Ta ?_|(refine Tm ?_;intro _)|refine Tc ?_|exact Tz)
    · rw[e1] at hC1;rw[e2] at hC2
      refine Fn.enter Tryz.func209 rfl rfl rfl ?_
      intro w hw
      repeat (first|refine Ta ?_|(refine Tm ?_;intro _)|refine Tc ?_|exact Tz)
      refine WC.adraw 17 (k:=?_)
      repeat (first|refine Da ?_|refine DQ.acall (hc:=r_Of1) (k:=?_)|refine DQ.acall (hc:=hC1) (k:=?_)|refine DQ.acall (hc:=hC2) (k:=?_)|refine DQ.acall (hc:=hC3) (k:=?_)|refine Dc ?_)
      refine DQ.anil (k:=?_)
      intro sx _
      repeat (first|refine Ta ?_|(refine Tm ?_;intro _)|refine Tc ?_|exact Tz)
    · rw[e1] at hC1;rw[e2] at hC2
      refine Fn.enter Tryz.func209 rfl rfl rfl ?_
      intro w hw
      repeat (first|refine Ta ?_|(refine Tm ?_;intro _)|refine Tc ?_|exact Tz)
      refine WC.adraw 17 (k:=?_)
      repeat (first|refine Da ?_|refine DQ.acall (hc:=r_Of1) (k:=?_)|refine DQ.acall (hc:=hC1) (k:=?_)|refine DQ.acall (hc:=hC2) (k:=?_)|refine DQ.acall (hc:=hC3) (k:=?_)|refine Dc ?_)
      refine DQ.anil (k:=?_)
      intro sx _
      repeat (first|refine Ta ?_|(refine Tm ?_;intro _)|refine Tc ?_|exact Tz)
    · rw[e1] at hC1;rw[e2] at hC2;rw[e3] at hC3
      refine Fn.enter Tryz.func209 rfl rfl rfl ?_
      intro w hw
      repeat (first|refine Ta ?_|(refine Tm ?_;intro _)|refine Tc ?_|exact Tz)
      refine WC.adraw 17 (k:=?_)
      repeat (first|refine Da ?_|refine DQ.acall (hc:=r_Of1) (k:=?_)|refine DQ.acall (hc:=hC1) (k:=?_)|refine DQ.acall (hc:=hC2) (k:=?_)|refine DQ.acall (hc:=hC3) (k:=?_)|refine Dc ?_)
      refine DQ.anil (k:=?_)
      intro sx _
      repeat (first|refine Ta ?_|(refine Tm ?_;intro _)|refine Tc ?_|exact Tz)
    · rw[e1] at hC1;rw[e2] at hC2;rw[e3] at hC3
      refine Fn.enter Tryz.func209 rfl rfl rfl ?_
      intro w hw
      repeat (first|refine Ta ?_|(refine Tm ?_;intro _)|refine Tc ?_|exact Tz)
      refine WC.adraw 17 (k:=?_)
      repeat (first|refine Da ?_|refine DQ.acall (hc:=r_Of1) (k:=?_)|refine DQ.acall (hc:=hC1) (k:=?_)|refine DQ.acall (hc:=hC2) (k:=?_)|refine DQ.acall (hc:=hC3) (k:=?_)|refine Dc ?_)
      refine DQ.anil (k:=?_)
      intro sx _
      repeat (first|refine Ta ?_|(refine Tm ?_;intro _)|refine Tc ?_|exact Tz)
end Sx
end Go.Proofs.YtiiacjladnljhaaGreatDoor
namespace Go.Proofs.YtiiacjladnljhaaGreatDoor
open Go Go.RowKit
namespace Sx
attribute [local irreducible] DQ DQS WO WC WX
set_option maxHeartbeats 1000000 in
theorem r4_Add (a b m:Nat) (ha:a<B256) (hb:b<B256) (hm:m<B256):Fn Tryz.prog 262 [numV a,numV b,numV m] Tr (Is (rE (mayN a b m) ((a+b)%m))):=by
  have hY:=r_May a b m ha hb hm
  cases hy:mayN a b m with
  | false =>
    rw[hy] at hY
    generalize (a+b)%m=R at *
    refine Fn.enter Tryz.func262 rfl rfl rfl ?_
    intro w hw
    repeat (first|refine Ta ?_|(refine Tm ?_;intro _)|refine WO.acall (hc:=hY) (k:=?_)|refine Tc ?_|exact Tz)
  | true =>
    rw[hy] at hY
    obtain⟨h1,h2,h3⟩:=mayN_spec hy
    have hc:=add_casesN h2 h3 hm
    have hA:=r_Add a b ha hb
    have hC:=r_Cmp ((a+b)%B256) m (Nat.mod_lt _ B256_zero) hm
    have hS:=r_Sub ((a+b)%B256) m (Nat.mod_lt _ B256_zero) hm
    have hcmp:∀ x,(bw x m 0=1→cmpN x m = -1)∧(bw x m 0=0→cmpN x m=0∨cmpN x m=1):=fun x=>by
      unfold bw
      by_cases h:x<m+0
      · rw[if_pos h];exact⟨fun _=>cmpN_lt (by omega),fun h=>by omega⟩
      · rw[if_neg h];refine⟨fun h=>by omega,fun _=>?_⟩
        rcases Nat.lt_or_ge m x with h1|h1
        · exact .inr (cmpN_gt h1)
        · exact .inl (cmpN_eq (by omega))
    have hcx:=hcmp ((a+b)%B256)
    clear hcmp
    generalize (a+b)%m=R at *
    generalize (a+b) / B256=c at *
    generalize ((a+b)%B256+B256 - m)%B256=y at *
    generalize bw ((a+b)%B256) m 0=l at *
    generalize (a+b)%B256=X at *
    rcases hc with ⟨rfl,hl,rfl⟩|⟨rfl,rfl⟩|⟨rfl,hl,rfl⟩
    · rw[hcx.1 hl] at hC
      refine Fn.enter Tryz.func262 rfl rfl rfl ?_
      intro w hw
      repeat (first|refine Ta ?_|(refine Tm ?_;intro _)|refine WO.acall (hc:=hY) (k:=?_)|refine WO.acall (hc:=hA) (k:=?_)|refine WO.acall (hc:=hC) (k:=?_)|refine WO.acall (hc:=hS) (k:=?_)|refine Tc ?_|exact Tz)
    · refine Fn.enter Tryz.func262 rfl rfl rfl ?_
      intro w hw
      repeat (first|refine Ta ?_|(refine Tm ?_;intro _)|refine WO.acall (hc:=hY) (k:=?_)|refine WO.acall (hc:=hA) (k:=?_)|refine WO.acall (hc:=hC) (k:=?_)|refine WO.acall (hc:=hS) (k:=?_)|refine Tc ?_|exact Tz)
    · rcases hcx.2 hl with e|e
      · rw[e] at hC
        refine Fn.enter Tryz.func262 rfl rfl rfl ?_
        intro w hw
        repeat (first|refine Ta ?_|(refine Tm ?_;intro _)|refine WO.acall (hc:=hY) (k:=?_)|refine WO.acall (hc:=hA) (k:=?_)|refine WO.acall (hc:=hC) (k:=?_)|refine WO.acall (hc:=hS) (k:=?_)|refine Tc ?_|exact Tz)
      · rw[e] at hC
        refine Fn.enter Tryz.func262 rfl rfl rfl ?_
        intro w hw
        repeat (first|refine Ta ?_|(refine Tm ?_;intro _)|refine WO.acall (hc:=hY) (k:=?_)|refine WO.acall (hc:=hA) (k:=?_)|refine WO.acall (hc:=hC) (k:=?_)|refine WO.acall (hc:=hS) (k:=?_)|refine Tc ?_|exact Tz)
set_option maxHeartbeats 1000000 in
theorem r4_Sub (a b m:Nat) (ha:a<B256) (hb:b<B256) (hm:m<B256):Fn Tryz.prog 264 [numV a,numV b,numV m] Tr (Is (rE (mayN a b m) ((a+m - b)%m))):=by
  have hY:=r_May a b m ha hb hm
  cases hy:mayN a b m with
  | false =>
    rw[hy] at hY
    generalize (a+m - b)%m=R at *
    refine Fn.enter Tryz.func264 rfl rfl rfl ?_
    intro w hw
    repeat (first|refine Ta ?_|(refine Tm ?_;intro _)|refine WO.acall (hc:=hY) (k:=?_)|refine Tc ?_|exact Tz)
  | true =>
    rw[hy] at hY
    obtain⟨h1,h2,h3⟩:=mayN_spec hy
    have hc:=sub_casesN h2 h3 hm
    have hS:=r_Sub a b ha hb
    have hA:=r_Add ((a+B256 - b)%B256) m (Nat.mod_lt _ B256_zero) hm
    generalize (a+m - b)%m=R at *
    generalize ((a+B256 - b)%B256+m) / B256=c at *
    generalize ((a+B256 - b)%B256+m)%B256=y at *
    generalize bw a b 0=l at *
    generalize (a+B256 - b)%B256=X at *
    rcases hc with ⟨rfl,rfl⟩|⟨rfl,rfl⟩
    all_goals
      refine Fn.enter Tryz.func264 rfl rfl rfl ?_
      intro w hw
      repeat (first|refine Ta ?_|(refine Tm ?_;intro _)|refine WO.acall (hc:=hY) (k:=?_)|refine WO.acall (hc:=hS) (k:=?_)|refine WO.acall (hc:=hA) (k:=?_)|refine Tc ?_|exact Tz)
set_option maxHeartbeats 1000000 in
theorem r_times (a b m:Nat) (ha:a<m) (hb:b<m) (hm:m<B256):Fn Tryz.prog 213 [numV a,numV b,numV m] Tr (Is (numV (a*b%m))):=by
  have hW:=r_Word m hm
  by_cases hs:m<18446744073709551616
  · rw[decide_eq_true hs] at hW
    have wa:wd 0 a=a:=Nat.mod_eq_of_lt (by omega)
    have wb:wd 0 b=b:=Nat.mod_eq_of_lt (by omega)
    have wm:wd 0 m=m:=Nat.mod_eq_of_lt hs
    have hM:=c_Mul64 a b (by omega) (by omega)
    have hq:a*b / 18446744073709551616<m:=by
      rw[Nat.div_lt_iff_lt_mul (by decide)]
      exact Nat.lt_of_le_of_lt (Nat.mul_le_mul_right b (Nat.le_of_lt ha)) (by
        have:m*b<m*18446744073709551616:=Nat.mul_lt_mul_of_pos_left (by omega) (by omega)
        exact this)
    have hD:=c_Div64 (a*b / 18446744073709551616) (a*b%18446744073709551616) m (Nat.mod_lt _ (by decide)) hs hq
    rw[show a*b / 18446744073709551616*18446744073709551616+a*b%18446744073709551616=a*b by rw[Nat.mul_comm];exact Nat.div_add_mod _ _] at hD
    have hO:=r_Of (a*b%m) (Nat.lt_trans (Nat.mod_lt _ (by omega)) hs)
    generalize a*b / m=q at *
    generalize a*b%m=R at *
    generalize a*b / 18446744073709551616=u at *
    generalize a*b%18446744073709551616=v at *
    rw[← wa,← wb] at hM
    rw[← wm] at hD
    refine Fn.enter Tryz.func213 rfl rfl rfl ?_
    intro w hw
    repeat (first|refine Ta ?_|(refine Tm ?_;intro _)|refine WO.acall (hc:=hW) (k:=?_)|refine WO.acall (hc:=hM) (k:=?_)|refine WO.acall (hc:=hD) (k:=?_)|refine WO.acall (hc:=hO) (k:=?_)|refine Tc ?_|exact Tz)
  · rw[decide_eq_false hs] at hW
    have hM:=r_Mul a b (by omega) (by omega)
    have hV:=r_Wide (a*b%B256) (a*b / B256) m (Nat.mod_lt _ B256_zero) (by
      rw[Nat.div_lt_iff_lt_mul B256_zero]
      exact Nat.lt_of_le_of_lt (Nat.mul_le_mul_left a (Nat.le_of_lt (Nat.lt_trans hb hm))) (Nat.mul_lt_mul_of_pos_right (by omega) B256_zero)) hm (by omega)
    rw[show a*b / B256*B256+a*b%B256=a*b by rw[Nat.mul_comm];exact Nat.div_add_mod _ _] at hV
    generalize a*b%m=R at *
    generalize a*b / B256=u at *
    generalize a*b%B256=v at *
    refine Fn.enter Tryz.func213 rfl rfl rfl ?_
    intro w hw
    repeat (first|refine Ta ?_|(refine Tm ?_;intro _)|refine WO.acall (hc:=hW) (k:=?_)|refine WO.acall (hc:=hM) (k:=?_)|refine WO.acall (hc:=hV) (k:=?_)|refine Tc ?_|exact Tz)
theorem r4_Mul (a b m:Nat) (ha:a<B256) (hb:b<B256) (hm:m<B256):Fn Tryz.prog 205 [numV a,numV b,numV m] Tr (Is (rE (mayN a b m) (a*b%m))):=by
  have hY:=r_May a b m ha hb hm
  cases hy:mayN a b m with
  | false =>
    rw[hy] at hY
    generalize a*b%m=R at *
    refine Fn.enter Tryz.func205 rfl rfl rfl ?_
    intro w hw
    repeat (first|refine Ta ?_|(refine Tm ?_;intro _)|refine WO.acall (hc:=hY) (k:=?_)|refine Tc ?_|exact Tz)
  | true =>
    rw[hy] at hY
    obtain⟨h1,h2,h3⟩:=mayN_spec hy
    have hT:=r_times a b m h2 h3 hm
    generalize a*b%m=R at *
    refine Fn.enter Tryz.func205 rfl rfl rfl ?_
    intro w hw
    repeat (first|refine Ta ?_|(refine Tm ?_;intro _)|refine WO.acall (hc:=hY) (k:=?_)|refine WO.acall (hc:=hT) (k:=?_)|refine Tc ?_|exact Tz)
end Sx
end Go.Proofs.YtiiacjladnljhaaGreatDoor
