/- Part 19 of the proof: MdD, Inv, MdE, Grp -/
import Derived.Test.YtiiacjladnljhaaGreatDoorM18
import Derived.Test.YtiiacjladnljhaaGreatDoorM09
set_option linter.unusedSimpArgs false
set_option linter.unusedVariables false
namespace Go.Proofs.YtiiacjladnljhaaGreatDoor
open Go Go.RowKit
namespace Sx
attribute [local irreducible] DQ DQS WO WC WX
theorem c_powerN {f:Nat} [Cal Tryz.prog f] (caps:List Value) (a n m:Nat) (h1:1<m) (ha:a<m) (hn:n<B256) (R:World→Prop) (hst:Stable R)
    (hf:∀ x y:Nat,x<m→y<m→Fn Tryz.prog f ([numV x,numV y]++caps) R (Is (numV (x*y%m)))) :
    Fn Tryz.prog 165 [numV a,numV 1,numV n,.func (.func f) #[] caps.toArray] R (Is (numV (a ^ n%m))):=by
  have hB:=c_Bits n hn
  have hlt:=lt_two_pow_bitsN n
  have hN:=bitsN_256 hn
  have hbit:∀ i:Int,0≤i→i≤1000000→Fn Tryz.prog 218 [numV n,.int .i64 i] Tr (Is (.int .u64 (bitN n i.toNat:Nat))):=fun i h0 h1=>c_Bit n i hn h0 h1
  have hend:=topB_end n (bitsN n)
  have hst0:=topB_start hlt
  have hstep:=fun k (h:k<bitsN n)=>topB_step n h
  generalize bitsN n=N at *
  refine Fn.enter Tryz.func165 rfl rfl rfl ?_
  intro w hw
  repeat (first|refine Ta ?_|(refine Tm ?_;intro _)|refine WO.acall (hc:=hB) (k:=?_)|refine Tc ?_|exact Tz)
  rename_i g4 g5 g6 g8 g9
  refine WC.loopI (σ:=Nat × Nat) (fun s=>s.1≤N∧s.2=a ^ topB n N s.1%m) (fun s=>[(3,.func (.func f) #[] caps.toArray),(4,pt g4),(6,pt g6),(8,pt g8),(9,pt g9),(13,.int .i64 (N:Int)),(14,.int .i64 (s.1:Int))])
    (fun s=>[⟨g4,24,numC a⟩,⟨g6,24,numC n⟩,⟨g8,24,numC 0⟩,⟨g9,24,numC s.2⟩]) (fun s=>N - s.1) (0,1) (fun s hs=>?_) ⟨Nat.zero_le _,by rw[hst0,Nat.pow_zero,Nat.mod_eq_of_lt h1]⟩
  obtain⟨k,x⟩:=s
  obtain⟨hk,hx⟩:=hs
  dsimp only at hk hx ⊢
  have hxm:x<m:=by rw[hx];exact Nat.mod_lt _ (by omega)
  by_cases hlt:(k:Int)<(N:Int)
  · have hkN:k<N:=by omega
    have hsq:=hf x x hxm hxm
    have hma:=hf (x*x%m) a (Nat.mod_lt _ (by omega)) ha
    have hbt:=hbit ((N:Int) - 1 - (k:Int)) (by omega) (by omega)
    rw[show ((N:Int) - 1 - (k:Int)).toNat=N - 1 - k by omega] at hbt
    have hp:=pow_round a m (topB n N k) (bitN n (N - 1 - k)) (bitN_two _ _)
    rw[← hstep k hkN,← hx] at hp
    repeat (first|refine Ta ?_|(refine Tm ?_;intro _)|refine Tc ?_|exact Tz)
    refine WC.dT rfl hlt ?_
    repeat (first|refine Ta ?_|(refine Tm ?_;intro _)|refine WO.acallV (hc:=hsq) (hR:=fun w' hm=>hst _ _ hw hm.mod.below) (k:=?_)|refine Tc ?_|exact Tz)
    rcases bitN_two n (N - 1 - k) with e|e
    · rw[e] at hbt hp
      refine WC.adraw 8 (k:=?_)
      repeat (first|refine Da ?_|refine DQ.acall (hc:=hB) (k:=?_)|refine DQ.acall (hc:=hbt) (k:=?_)|refine Dc ?_)
      refine DQ.anil (k:=?_)
      intro sx _
      repeat (first|refine Ta ?_|(refine Tm ?_;intro _)|refine Tc ?_|exact Tz)
      refine WX.metI (k+1,x*x%m) (hs:=⟨⟨by omega,by simpa using hp.symm⟩,by simp only;omega⟩)
    · rw[e] at hbt hp
      refine WC.adraw 8 (k:=?_)
      repeat (first|refine Da ?_|refine DQ.acall (hc:=hB) (k:=?_)|refine DQ.acall (hc:=hbt) (k:=?_)|refine Dc ?_)
      refine DQ.anil (k:=?_)
      intro sx _
      repeat (first|refine Ta ?_|(refine Tm ?_;intro _)|refine WO.acallV (hc:=hma) (hR:=fun w' hm=>hst _ _ hw hm.mod.below) (k:=?_)|refine Tc ?_|exact Tz)
      refine WX.metI (k+1,x*x%m*a%m) (hs:=⟨⟨by omega,by simpa using hp.symm⟩,by simp only;omega⟩)
  · have hkN:k=N:=by omega
    subst hkN
    rw[hend] at hx
    subst hx
    repeat (first|refine Ta ?_|(refine Tm ?_;intro _)|refine Tc ?_|exact Tz)
    refine WC.dF rfl hlt ?_
    repeat (first|refine Ta ?_|(refine Tm ?_;intro _)|refine Tc ?_|exact Tz)
theorem c_Exp11 (a b m g:Nat) (ha:a<m) (hb:b<m) (hm:m<18446744073709551616):Fn Tryz.prog 163 [.int .u64 (a:Int),.int .u64 (b:Int),pt g] (fun w=>Seg w g 0 (numC m)) (Is (.int .u64 ((a*b%m:Nat):Int))):=by
  have hW:=c_word a b m ha hb hm
  have e:wd 0 m=m:=Nat.mod_eq_of_lt hm
  rw[← e] at hW
  refine Fn.enter Tryz.func163 rfl rfl rfl ?_
  intro w hw
  rw[← e]
  repeat (first|refine Ta ?_|(refine Tm ?_;intro _)|refine WO.acall (hc:=hW) (k:=?_)|refine Tc ?_|exact Tz)
theorem c_Exp12 (a b m g:Nat) (ha:a<m) (hb:b<m) (hm:m<B256):Fn Tryz.prog 166 [numV a,numV b,pt g] (fun w=>Seg w g 0 (numC m)) (Is (numV (a*b%m))):=by
  have hW:=c_times a b m ha hb hm
  refine Fn.enter Tryz.func166 rfl rfl rfl ?_
  intro w hw
  repeat (first|refine Ta ?_|(refine Tm ?_;intro _)|refine WO.acall (hc:=hW) (k:=?_)|refine Tc ?_|exact Tz)
theorem c_Exp1 (a n m g:Nat) (h1:1<m) (ha:a<m) (hm:m<B256) (hn:n<B256):Fn Tryz.prog 160 [numV a,numV a,numV m,pt g] (fun w=>Seg w g 0 (numC n)) (Is (numV (a ^ n%m))):=by
  have hB:=c_Bits m hm
  by_cases hs:m<18446744073709551616
  · have hle:((bitsN m:Nat):Int)≤64:=by have:bitsN m≤64:=bitsN_le (by simpa using hs);omega
    have ea:wd 0 a=a:=Nat.mod_eq_of_lt (by omega)
    have hP:∀ g,Fn Tryz.prog 162 [.int .u64 ((wd 0 a:Nat):Int),.int .u64 1,numV n,.func (.func 163) #[] #[pt g]] (fun w=>Seg w g 0 (numC m)) (Is (.int .u64 ((a ^ n%m:Nat):Int))) :=
      fun g=>by rw[ea];exact c_powerW [pt g] a n m h1 ha hn hs _ Stable.seg (fun x y hx hy=>c_Exp11 x y m g hx hy hs)
    have hO:=c_Of (a ^ n%m) (Nat.lt_trans (Nat.mod_lt _ (by omega)) hs)
    generalize bitsN m=N at *
    refine Fn.enter Tryz.func160 rfl rfl rfl ?_
    intro w hw
    repeat (first|refine Ta ?_|(refine Tm ?_;intro _)|refine WO.acall (hc:=hB) (k:=?_)|refine Tc ?_|exact Tz)
    refine WC.dT rfl hle ?_
    repeat (first|refine Ta ?_|(refine Tm ?_;intro _)|refine WO.acall (hc:=hO) (k:=?_)|refine WO.acallR (hc:=hP _) (hR:=fun w' hm=>Hs.seg (by repeat (first|exact Hs.here|apply Hs.there)) hm) (k:=?_)|refine Tc ?_|exact Tz)
  · have hle:¬ ((bitsN m:Nat):Int)≤64:=by
      intro h
      have:bitsN m≤64:=by omega
      rw[bitsN_le_iff] at this
      exact hs (by simpa using this)
    have hP:∀ g,Fn Tryz.prog 165 [numV a,numV 1,numV n,.func (.func 166) #[] #[pt g]] (fun w=>Seg w g 0 (numC m)) (Is (numV (a ^ n%m))) :=
      fun g=>c_powerN [pt g] a n m h1 ha hn _ Stable.seg (fun x y hx hy=>c_Exp12 x y m g hx hy hm)
    generalize bitsN m=N at *
    refine Fn.enter Tryz.func160 rfl rfl rfl ?_
    intro w hw
    repeat (first|refine Ta ?_|(refine Tm ?_;intro _)|refine WO.acall (hc:=hB) (k:=?_)|refine Tc ?_|exact Tz)
    refine WC.dF rfl hle ?_
    repeat (first|refine Ta ?_|(refine Tm ?_;intro _)|refine Tc ?_|exact Tz)
    refine WC.adraw 5 (k:=?_)
    repeat (first|refine Da ?_|refine DQ.acall (hc:=c_Of1) (k:=?_)|refine DQ.acallR (hc:=hP _) (hR:=fun w' hm=>Hs.seg (by repeat (first|exact Hs.here|apply Hs.there)) hm) (k:=?_)|refine Dc ?_)
    refine DQ.anil (k:=?_)
    intro sx _
    repeat (first|refine Ta ?_|(refine Tm ?_;intro _)|refine Tc ?_|exact Tz)
theorem c_Exp (a n m:Nat) (ha:a<B256) (hn:n<B256) (hm:m<B256):Fn Tryz.prog 96 [numV a,numV n,numV m] Tr (Is (rE (mayN a a m) (a ^ n%m))):=by
  have hO:=fun g=>c_of (f:=160) [pt g] a a m (a ^ n%m) ha ha hm _ Stable.seg (fun h=>c_Exp1 a n m g (mayN_spec h).1 (mayN_spec h).2.1 hm hn)
  refine Fn.enter Tryz.func96 rfl rfl rfl ?_
  intro w hw
  repeat (first|refine Ta ?_|(refine Tm ?_;intro _)|refine WO.acallR (hc:=hO _) (hR:=fun w' hm=>Hs.seg (by repeat (first|exact Hs.here|apply Hs.there)) hm) (k:=?_)|refine Tc ?_|exact Tz)
end Sx
end Go.Proofs.YtiiacjladnljhaaGreatDoor
namespace Go.Proofs.YtiiacjladnljhaaGreatDoor
namespace Sx
def invL (m r s x y:Nat):Nat:=if h:s≤1 then y else invL m s (r%s) y ((x+m - r / s*y%m)%m)
termination_by s
decreasing_by exact Nat.mod_lt _ (by omega)
def invN (a m:Nat):Nat:=if Nat.gcd a m=1 then invL m m a 0 1 else 0
theorem emod_of_sub {a b m:Int} (h:m ∣ a - b):a%m=b%m:=by
  obtain⟨c,hc⟩:=h
  have:a=b+m*c:=by omega
  rw[this,Int.add_mul_emod_self_left]
theorem emod_sub_of {a b m:Int} (h:a%m=b%m):m ∣ a - b:=Int.dvd_of_emod_eq_zero (by rw[Int.sub_emod,h,Int.sub_self,Int.zero_emod])
theorem nat_of_dvd {a b m:Nat} (h:(m:Int) ∣ (a:Int) - (b:Int)):a%m=b%m:=by
  have:=emod_of_sub h
  rw[← Int.natCast_emod,← Int.natCast_emod] at this
  exact Int.ofNat.inj this
theorem dvd_of_nat {a b m:Nat} (h:a%m=b%m):(m:Int) ∣ (a:Int) - (b:Int):=by
  apply emod_sub_of
  rw[← Int.natCast_emod,← Int.natCast_emod,h]
theorem inv_step {a m r s x y:Nat} (hm:0<m) (h1:x*a%m=r%m) (h2:y*a%m=s%m):(x+m - r / s*y%m)%m*a%m=r%s%m:=by
  have ht:r / s*y%m<m:=Nat.mod_lt _ hm
  have e1:r=s*(r / s)+r%s:=(Nat.div_add_mod r s).symm
  have e2:r / s*y=m*(r / s*y / m)+r / s*y%m:=(Nat.div_add_mod _ m).symm
  have e3:x+m - r / s*y%m=m*((x+m - r / s*y%m) / m)+(x+m - r / s*y%m)%m:=(Nat.div_add_mod _ m).symm
  have d1:=dvd_of_nat h1
  have d2:=dvd_of_nat h2
  apply nat_of_dvd
  generalize hz:(x+m - r / s*y%m)%m=z at *
  generalize (x+m - r / s*y%m) / m=k at *
  generalize hu:r / s*y%m=u at *
  generalize r / s*y / m=l at *
  generalize r / s=q at *
  generalize r%s=p at *
  obtain⟨c1,hc1⟩:=d1
  obtain⟨c2,hc2⟩:=d2
  have f3:(x:Int)+m - u=m*k+z:=by
    have:((x+m - u:Nat):Int)=((m*k+z:Nat):Int):=by rw[e3]
    rw[Int.ofNat_sub (by omega)] at this
    push_cast at this
    exact this
  have f2:(q:Int)*y=m*l+u:=by exact_mod_cast e2
  have f1:(r:Int)=s*q+p:=by exact_mod_cast e1
  push_cast at hc1 hc2 ⊢
  refine⟨c1 - q*c2+a - k*a+l*a,?_⟩
  have hz' : (z:Int)=x+m - (q*y - m*l) - m*k:=by omega
  have:(z:Int)*a - p=(x*a - r) - q*(y*a - s)+m*a+m*(l*a) - m*(k*a):=by
    rw[hz',f1]
    simp only[Int.sub_mul,Int.add_mul,Int.mul_sub,Int.mul_add,Int.mul_assoc,Int.mul_comm,Int.mul_left_comm]
    omega
  rw[this,hc1,hc2]
  simp only[Int.sub_mul,Int.add_mul,Int.mul_sub,Int.mul_add,Int.mul_assoc,Int.mul_comm,Int.mul_left_comm]
  omega
theorem invL_one {m r x y:Nat}:invL m r 1 x y=y:=by unfold invL;simp
theorem invL_more {m r s x y:Nat} (h:1<s):invL m r s x y=invL m s (r%s) y ((x+m - r / s*y%m)%m):=by
  rw[invL];rw[dif_neg (by omega)]
theorem left_pos {r s:Nat} (hs:1<s) (hg:Nat.gcd r s=1):0<r%s:=by
  rcases Nat.eq_zero_or_pos (r%s) with h|h
  · exfalso
    have h1:s ∣ r:=Nat.dvd_of_mod_eq_zero h
    have:Nat.gcd r s=s:=Nat.gcd_eq_right h1
    omega
  · exact h
theorem gcd_next {r s:Nat} (hg:Nat.gcd r s=1):Nat.gcd s (r%s)=1:=by
  rw[Nat.gcd_comm s,← Nat.gcd_rec,Nat.gcd_comm];exact hg
theorem invL_spec (m a:Nat) (hm:1<m):∀ (s r x y:Nat),0<s→Nat.gcd r s=1→x*a%m=r%m→y*a%m=s%m→y<m→invL m r s x y*a%m=1∧invL m r s x y<m:=by
  intro s
  induction s using Nat.strongRecOn with
  | _ s ih =>
    intro r x y hs hg h1 h2 hy
    by_cases e:s=1
    · subst e
      rw[invL_one,h2,Nat.mod_eq_of_lt hm]
      exact⟨rfl,hy⟩
    · rw[invL_more (by omega)]
      exact ih (r%s) (Nat.mod_lt _ hs) s y _ (left_pos (by omega) hg) (gcd_next hg) h2 (inv_step (by omega) h1 h2) (Nat.mod_lt _ (by omega))
theorem invN_spec {m a:Nat} (hm:1<m) (ha:a<m) (hg:Nat.gcd a m=1):invN a m*a%m=1∧invN a m<m:=by
  unfold invN
  rw[if_pos hg]
  have h0:0<a:=by
    rcases Nat.eq_zero_or_pos a with h|h
    · subst h;rw[Nat.gcd_zero_left] at hg;omega
    · exact h
  exact invL_spec m a hm a m 0 1 h0 (by rw[Nat.gcd_comm];exact hg) (by simp) (by simp) hm
theorem invN_ne {m a:Nat} (hm:1<m) (ha:a<m) (hg:Nat.gcd a m=1):invN a m≠0:=by
  intro h
  have:=(invN_spec hm ha hg).1
  rw[h] at this
  simp at this
theorem invN_no {m a:Nat} (hg:Nat.gcd a m≠1):invN a m=0:=by unfold invN;rw[if_neg hg]
def invE (a m:Nat):Int:=if mayN a a m then (if Nat.gcd a m=1 then 0 else 7) else 1
end Sx
end Go.Proofs.YtiiacjladnljhaaGreatDoor
namespace Go.Proofs.YtiiacjladnljhaaGreatDoor
open Go Go.RowKit
namespace Sx
attribute [local irreducible] wd DQ DQS WO WC WX
theorem q_lt {r s m:Nat} (hs:1<s) (hr:r≤m) (hm:1<m):r / s<m:=Nat.lt_of_le_of_lt (Nat.div_le_div_right hr) (Nat.div_lt_self (by omega) hs)
set_option maxHeartbeats 1000000 in
theorem c_Inv1 (a m:Nat) (h1:1<m) (ha:a<m) (hm:m<B256):Fn Tryz.prog 273 [numV a,numV a,numV m] Tr (Is (numV (invN a m))):=by
  have haB:a<B256:=by omega
  have hG:=c_Common a m haB hm
  have hgB:Nat.gcd a m<B256:=Nat.lt_of_le_of_lt (Nat.gcd_le_right _ (by omega)) hm
  by_cases hg:Nat.gcd a m=1
  · have hne:¬ (Nat.gcd a m≠1):=fun h=>h hg
    have hinv:invN a m=invL m m a 0 1:=by unfold invN;rw[if_pos hg]
    have h0:0<a:=by
      rcases Nat.eq_zero_or_pos a with h|h
      · subst h;rw[Nat.gcd_zero_left] at hg;omega
      · exact h
    have hgm:Nat.gcd m a=1:=by rw[Nat.gcd_comm];exact hg
    rw[hinv]
    refine Fn.enter Tryz.func273 rfl rfl rfl ?_
    intro w hw
    repeat (first|refine Ta ?_|(refine Tm ?_;intro _)|refine WO.acall (hc:=hG) (k:=?_)|refine WO.acall (hc:=c_Of1) (k:=?_)|refine Tc ?_|exact Tz)
    refine WC.dF rfl hne ?_
    repeat (first|refine Ta ?_|(refine Tm ?_;intro _)|refine Tc ?_|exact Tz)
    rename_i g3 g4 g5 g6
    refine WC.adrawS [1] [(1,[⟨g3,24,numC a⟩])] 8 (k:=?_)
    repeat (first|refine DQS.skip ?_|refine DQS.autoM (k:=?_)|refine DQS.acall (hc:=c_Of1) (k:=?_)|refine DQS.acall (hc:=c_Of0) (k:=?_)|refine DQS.autoH (k:=?_)|refine DQS.auto (k:=?_)|refine DQS.autoF (k:=?_)|refine DQS.does (fun s _=>a_eqNum) Dp.const ?_|refine DQS.does (fun s _=>a_neqNum) Dp.const ?_)
    refine DQS.anil (k:=?_)
    intro sx _
    repeat (first|refine WOS.autoS (kk:=?_)|refine WOS.auto (kk:=?_))
    refine WOS.nil ?_
    refine WX.noPanic ?_
    generalize sx 4 0=g7
    generalize sx 5 0=g8
    generalize sx 6 0=g9
    generalize sx 7 0=g10
    repeat (first|refine Ta ?_|(refine Tm ?_;intro _)|refine Tc ?_|exact Tz)
    refine WC.loopI (σ:=Nat × Nat × Nat × Nat) (fun s=>0<s.2.1∧s.2.1<s.1∧s.1≤m∧Nat.gcd s.1 s.2.1=1∧s.2.2.1<m∧s.2.2.2<m∧invL m s.1 s.2.1 s.2.2.1 s.2.2.2=invL m m a 0 1)
      (fun s=>[(5,pt g5),(6,pt g6),(7,pt g7),(8,pt g8),(9,pt g9),(10,pt g10)])
      (fun s=>[⟨g5,24,numC m⟩,⟨g6,24,numC 0⟩,⟨g7,24,numC s.1⟩,⟨g8,24,numC s.2.1⟩,⟨g9,24,numC s.2.2.1⟩,⟨g10,24,numC s.2.2.2⟩]) (fun s=>s.2.1) (m,a,0,1) (fun s hs=>?_) ⟨h0,ha,Nat.le_refl _,hgm,by show 0<m;omega,h1,rfl⟩
    obtain⟨r,s,x,y⟩:=s
    obtain⟨hs0,hsr,hrm,hgc,hx,hy,heq⟩:=hs
    dsimp only at hs0 hsr hrm hgc hx hy heq ⊢
    have hsB:s<B256:=by omega
    by_cases hs1:s=1
    · have hno:¬ (s≠1):=fun h=>h hs1
      subst hs1
      rw[invL_one] at heq
      rw[← heq]
      repeat (first|refine Ta ?_|(refine Tm ?_;intro _)|refine Tc ?_|exact Tz)
      refine WC.adraw 3 (k:=?_)
      repeat (first|refine Da ?_|refine DQ.acall (hc:=c_Of1) (k:=?_)|refine Dc ?_)
      refine DQ.anil (k:=?_)
      intro sx _
      repeat (first|refine Ta ?_|(refine Tm ?_;intro _)|refine Tc ?_|exact Tz)
    · have hD:=c_Div r s (by omega) hsB hs0
      have hq:=q_lt (r:=r) (s:=s) (m:=m) (by omega) hrm h1
      have hT:=c_times (r / s) y m hq hy hm
      have hS:=c_Sub x (r / s*y%m) m (by omega) (Nat.lt_trans (Nat.mod_lt _ (by omega)) hm) hm
      have hmay:mayN x (r / s*y%m) m=true:=by unfold mayN;simp[h1,hx,Nat.mod_lt _ (show 0<m by omega)]
      rw[hmay] at hS
      have hnext:=invL_more (m:=m) (r:=r) (x:=x) (y:=y) (show 1<s by omega)
      have hpos:=left_pos (show 1<s by omega) hgc
      have hlt:=Nat.mod_lt r hs0
      have hgn:=gcd_next hgc
      have hz:(x+m - r / s*y%m)%m<m:=Nat.mod_lt _ (by omega)
      rw[heq] at hnext
      generalize (x+m - r / s*y%m)%m=z at *
      generalize r / s*y%m=u at *
      generalize r / s=q at *
      generalize r%s=p at *
      repeat (first|refine Ta ?_|(refine Tm ?_;intro _)|refine Tc ?_|exact Tz)
      refine WC.adraw 3 (k:=?_)
      repeat (first|refine Da ?_|refine DQ.acall (hc:=c_Of1) (k:=?_)|refine Dc ?_)
      refine DQ.anil (k:=?_)
      intro sx _
      repeat (first|refine Ta ?_|(refine Tm ?_;intro _)|refine Tc ?_|exact Tz)
      refine WC.dT rfl hs1 ?_
      repeat (first|refine Ta ?_|(refine Tm ?_;intro _)|refine WO.acall (hc:=hD) (k:=?_)|refine Tc ?_|exact Tz)
      rename_i g11 g12
      refine WC.adrawF [9] 11 (k:=?_)
      repeat (first|refine Da ?_|refine DQ.acall (hc:=hT) (k:=?_)|refine DQ.acall (hc:=hS) (k:=?_)|refine Df ?_)
      refine DQ.anil (k:=?_)
      intro sx _
      repeat (first|refine Ta ?_|(refine Tm ?_;intro _)|refine Tc ?_|exact Tz)
      generalize sx 10 0=g14
      refine WC.adrawS [1,2,3] [(1,[⟨g12,24,numC p⟩]),(2,[⟨g10,24,numC y⟩]),(3,[⟨g14,24,numC z⟩])] 4 (k:=?_)
      repeat (first|refine DQS.skip ?_|refine DQS.autoM (k:=?_)|refine DQS.autoH (k:=?_)|refine DQS.auto (k:=?_)|refine DQS.autoF (k:=?_)|refine DQS.does (fun s _=>a_eqNum) Dp.const ?_|refine DQS.does (fun s _=>a_neqNum) Dp.const ?_)
      refine DQS.anil (k:=?_)
      intro sx _
      repeat (first|refine WOS.autoS (kk:=?_)|refine WOS.auto (kk:=?_))
      refine WOS.nil ?_
      refine WX.noPanic ?_
      repeat (first|refine Ta ?_|(refine Tm ?_;intro _)|refine Tc ?_|exact Tz)
      refine WX.metI (s,p,y,z) (hs:=⟨⟨hpos,hlt,by omega,hgn,hy,hz,hnext.symm⟩,hlt⟩)
  · have hinv:invN a m=0:=invN_no hg
    rw[hinv]
    refine Fn.enter Tryz.func273 rfl rfl rfl ?_
    intro w hw
    repeat (first|refine Ta ?_|(refine Tm ?_;intro _)|refine WO.acall (hc:=hG) (k:=?_)|refine WO.acall (hc:=c_Of1) (k:=?_)|refine Tc ?_|exact Tz)
    refine WC.dT rfl hg ?_
    repeat (first|refine Ta ?_|(refine Tm ?_;intro _)|refine Tc ?_|exact Tz)
theorem invN_lt {a m:Nat} (h1:1<m) (ha:a<m):invN a m<m:=by
  by_cases hg:Nat.gcd a m=1
  · exact (invN_spec h1 ha hg).2
  · rw[invN_no hg];omega
set_option maxHeartbeats 1000000 in
theorem c_Inv (a m:Nat) (ha:a<B256) (hm:m<B256):Fn Tryz.prog 270 [numV a,numV m] Tr (Is (.tuple #[numV (okV (mayN a a m) (invN a m)),.int .i64 (invE a m)])):=by
  have hO:=c_of (f:=273) [] a a m (invN a m) ha ha hm Tr Stable.tr (fun h=>c_Inv1 a m (mayN_spec h).1 (mayN_spec h).2.1 hm)
  cases hy:mayN a a m with
  | false =>
    have he:invE a m=1:=by unfold invE;rw[hy];rfl
    rw[hy] at hO
    rw[he]
    refine Fn.enter Tryz.func270 rfl rfl rfl ?_
    intro w hw
    repeat (first|refine Ta ?_|(refine Tm ?_;intro _)|refine WO.acall (hc:=hO) (k:=?_)|refine Tc ?_|exact Tz)
    refine WC.adraw 7 (k:=?_)
    repeat (first|refine Da ?_|refine DQ.acall (hc:=c_Of0) (k:=?_)|refine Dc ?_)
    refine DQ.anil (k:=?_)
    intro sx _
    repeat (first|refine Ta ?_|(refine Tm ?_;intro _)|refine Tc ?_|exact Tz)
  | true =>
    obtain⟨h1,h2,_⟩:=mayN_spec hy
    have hB:invN a m<B256:=Nat.lt_trans (invN_lt h1 h2) hm
    rw[hy] at hO
    by_cases hg:Nat.gcd a m=1
    · have he:invE a m=0:=by unfold invE;rw[hy,if_pos hg];rfl
      have hz:¬ invN a m=0:=invN_ne h1 h2 hg
      rw[he]
      generalize invN a m=v at *
      refine Fn.enter Tryz.func270 rfl rfl rfl ?_
      intro w hw
      repeat (first|refine Ta ?_|(refine Tm ?_;intro _)|refine WO.acall (hc:=hO) (k:=?_)|refine Tc ?_|exact Tz)
      refine WC.adraw 7 (k:=?_)
      repeat (first|refine Da ?_|refine DQ.acall (hc:=c_Of0) (k:=?_)|refine Dc ?_)
      refine DQ.anil (k:=?_)
      intro sx _
      repeat (first|refine Ta ?_|(refine Tm ?_;intro _)|refine Tc ?_|exact Tz)
      refine WC.dF rfl hz ?_
      repeat (first|refine Ta ?_|(refine Tm ?_;intro _)|refine Tc ?_|exact Tz)
    · have he:invE a m=7:=by unfold invE;rw[hy,if_neg hg];rfl
      rw[he]
      rw[invN_no hg] at hO ⊢
      refine Fn.enter Tryz.func270 rfl rfl rfl ?_
      intro w hw
      repeat (first|refine Ta ?_|(refine Tm ?_;intro _)|refine WO.acall (hc:=hO) (k:=?_)|refine Tc ?_|exact Tz)
      refine WC.adraw 7 (k:=?_)
      repeat (first|refine Da ?_|refine DQ.acall (hc:=c_Of0) (k:=?_)|refine Dc ?_)
      refine DQ.anil (k:=?_)
      intro sx _
      repeat (first|refine Ta ?_|(refine Tm ?_;intro _)|refine Tc ?_|exact Tz)
end Sx
end Go.Proofs.YtiiacjladnljhaaGreatDoor
namespace Go.Proofs.YtiiacjladnljhaaGreatDoor
open Go Go.RowKit
namespace Sx
attribute [local irreducible] wd DQ DQS WO WC WX
abbrev grpC (p q g h:Nat):List Value:=[.int .u64 ((wd 0 p:Nat):Int),.int .u64 ((wd 1 p:Nat):Int),.int .u64 ((wd 2 p:Nat):Int),.int .u64 ((wd 3 p:Nat):Int),.int .u64 ((wd 0 q:Nat):Int),.int .u64 ((wd 1 q:Nat):Int),.int .u64 ((wd 2 q:Nat):Int),.int .u64 ((wd 3 q:Nat):Int),.int .u64 ((wd 0 g:Nat):Int),.int .u64 ((wd 1 g:Nat):Int),.int .u64 ((wd 2 g:Nat):Int),.int .u64 ((wd 3 g:Nat):Int),.int .u64 ((wd 0 h:Nat):Int),.int .u64 ((wd 1 h:Nat):Int),.int .u64 ((wd 2 h:Nat):Int),.int .u64 ((wd 3 h:Nat):Int)]
abbrev grpV (p q g h:Nat):Value:=.agg #[.int .u64 ((wd 0 p:Nat):Int),.int .u64 ((wd 1 p:Nat):Int),.int .u64 ((wd 2 p:Nat):Int),.int .u64 ((wd 3 p:Nat):Int),.int .u64 ((wd 0 q:Nat):Int),.int .u64 ((wd 1 q:Nat):Int),.int .u64 ((wd 2 q:Nat):Int),.int .u64 ((wd 3 q:Nat):Int),.int .u64 ((wd 0 g:Nat):Int),.int .u64 ((wd 1 g:Nat):Int),.int .u64 ((wd 2 g:Nat):Int),.int .u64 ((wd 3 g:Nat):Int),.int .u64 ((wd 0 h:Nat):Int),.int .u64 ((wd 1 h:Nat):Int),.int .u64 ((wd 2 h:Nat):Int),.int .u64 ((wd 3 h:Nat):Int)]
def gMay (p a:Nat):Bool:=decide (1<p) && decide (a≠0) && decide (a<p)
theorem gMay_spec {p a:Nat} (h:gMay p a=true):1<p∧a≠0∧a<p:=by
  unfold gMay at h;simp at h;exact⟨h.1.1,h.1.2,h.2⟩
theorem gMay_mayN {p a:Nat} (h:gMay p a=true):mayN a a p=true:=by
  obtain⟨h1,_,h3⟩:=gMay_spec h
  simp[mayN,h1,h3]
section
variable (p q g h:Nat)
theorem c_SAdd (a b:Nat) (ha:a<B256) (hb:b<B256) (hq:q<B256):Fn Tryz.prog 259 [grpV p q g h,numV a,numV b] Tr (Is (rE (mayN a b q) ((a+b)%q))):=by
  have hO:=c_Add a b q ha hb hq
  refine Fn.enter Tryz.func259 rfl rfl rfl ?_
  intro w hw
  repeat (first|refine Td ?_|(refine Tm ?_;intro _)|refine WO.acall (hc:=hO) (k:=?_)|refine Tc ?_|exact Tz)
theorem c_SSub (a b:Nat) (ha:a<B256) (hb:b<B256) (hq:q<B256):Fn Tryz.prog 261 [grpV p q g h,numV a,numV b] Tr (Is (rE (mayN a b q) ((a+q - b)%q))):=by
  have hO:=c_Sub a b q ha hb hq
  refine Fn.enter Tryz.func261 rfl rfl rfl ?_
  intro w hw
  repeat (first|refine Td ?_|(refine Tm ?_;intro _)|refine WO.acall (hc:=hO) (k:=?_)|refine Tc ?_|exact Tz)
theorem c_SMul (a b:Nat) (ha:a<B256) (hb:b<B256) (hq:q<B256):Fn Tryz.prog 236 [grpV p q g h,numV a,numV b] Tr (Is (rE (mayN a b q) (a*b%q))):=by
  have hO:=c_Mul a b q ha hb hq
  refine Fn.enter Tryz.func236 rfl rfl rfl ?_
  intro w hw
  repeat (first|refine Td ?_|(refine Tm ?_;intro _)|refine WO.acall (hc:=hO) (k:=?_)|refine Tc ?_|exact Tz)
theorem c_SInv (a:Nat) (ha:a<B256) (hq:q<B256):Fn Tryz.prog 260 [grpV p q g h,numV a] Tr (Is (.tuple #[numV (okV (mayN a a q) (invN a q)),.int .i64 (invE a q)])):=by
  have hO:=c_Inv a q ha hq
  refine Fn.enter Tryz.func260 rfl rfl rfl ?_
  intro w hw
  repeat (first|refine Td ?_|(refine Tm ?_;intro _)|refine WO.acall (hc:=hO) (k:=?_)|refine Tc ?_|exact Tz)
theorem c_may (a:Nat) (ha:a<B256) (hp:p<B256):Fn Tryz.prog 95 [grpV p q g h,numV a] Tr (Is (.bool (gMay p a))):=by
  have hC1:=c_Cmp p 1 hp B256_one'
  have hC2:=c_Cmp a p ha hp
  by_cases h1:1<p
  · rw[cmpN_gt h1] at hC1
    by_cases h2:a=0
    · have e:gMay p a=false:=by simp[gMay,h2]
      rw[e]
      refine Fn.enter Tryz.func95 rfl rfl rfl ?_
      intro w hw
      repeat (first|refine Td ?_|(refine Tm ?_;intro _)|refine Tc ?_|exact Tz)
      refine WC.adraw 18 (k:=?_)
      repeat (first|refine DQ.decT (k:=?_)|refine DQ.decF (k:=?_)|refine Da ?_|refine DQ.acall (hc:=c_Of1) (k:=?_)|refine DQ.acall (hc:=c_Of0) (k:=?_)|refine DQ.acall (hc:=hC1) (k:=?_)|refine DQ.acall (hc:=hC2) (k:=?_)|refine Dc ?_)
      refine DQ.anil (k:=?_)
      intro sx _
      repeat (first|refine Td ?_|(refine Tm ?_;intro _)|refine Tc ?_|exact Tz)
    · by_cases h3:a<p
      · have e:gMay p a=true:=by simp[gMay,h1,h2,h3]
        rw[cmpN_lt h3] at hC2
        rw[e]
        refine Fn.enter Tryz.func95 rfl rfl rfl ?_
        intro w hw
        repeat (first|refine Td ?_|(refine Tm ?_;intro _)|refine Tc ?_|exact Tz)
        refine WC.adraw 18 (k:=?_)
        repeat (first|refine DQ.decT (k:=?_)|refine DQ.decF (k:=?_)|refine Da ?_|refine DQ.acall (hc:=c_Of1) (k:=?_)|refine DQ.acall (hc:=c_Of0) (k:=?_)|refine DQ.acall (hc:=hC1) (k:=?_)|refine DQ.acall (hc:=hC2) (k:=?_)|refine Dc ?_)
        refine DQ.anil (k:=?_)
        intro sx _
        repeat (first|refine Td ?_|(refine Tm ?_;intro _)|refine Tc ?_|exact Tz)
      · have e:gMay p a=false:=by simp[gMay,h3]
        have e2:cmpN a p=0∨cmpN a p=1:=by
          rcases Nat.lt_or_ge p a with h4|h4
          · exact .inr (cmpN_gt h4)
          · exact .inl (cmpN_eq (by omega))
        rw[e]
        rcases e2 with e2|e2
        all_goals
          rw[e2] at hC2
          refine Fn.enter Tryz.func95 rfl rfl rfl ?_
          intro w hw
          repeat (first|refine Td ?_|(refine Tm ?_;intro _)|refine Tc ?_|exact Tz)
          refine WC.adraw 18 (k:=?_)
          repeat (first|refine DQ.decT (k:=?_)|refine DQ.decF (k:=?_)|refine Da ?_|refine DQ.acall (hc:=c_Of1) (k:=?_)|refine DQ.acall (hc:=c_Of0) (k:=?_)|refine DQ.acall (hc:=hC1) (k:=?_)|refine DQ.acall (hc:=hC2) (k:=?_)|refine Dc ?_)
          refine DQ.anil (k:=?_)
          intro sx _
          repeat (first|refine Td ?_|(refine Tm ?_;intro _)|refine Tc ?_|exact Tz)
  · have e:gMay p a=false:=by simp[gMay,h1]
    have e2:cmpN p 1=0∨cmpN p 1 = -1:=by
      rcases Nat.lt_or_ge p 1 with h4|h4
      · exact .inr (cmpN_lt h4)
      · exact .inl (cmpN_eq (by omega))
    rw[e]
    rcases e2 with e2|e2
    all_goals
      rw[e2] at hC1
      refine Fn.enter Tryz.func95 rfl rfl rfl ?_
      intro w hw
      repeat (first|refine Td ?_|(refine Tm ?_;intro _)|refine Tc ?_|exact Tz)
      refine WC.adraw 18 (k:=?_)
      repeat (first|refine DQ.decT (k:=?_)|refine DQ.decF (k:=?_)|refine Da ?_|refine DQ.acall (hc:=c_Of1) (k:=?_)|refine DQ.acall (hc:=c_Of0) (k:=?_)|refine DQ.acall (hc:=hC1) (k:=?_)|refine DQ.acall (hc:=hC2) (k:=?_)|refine Dc ?_)
      refine DQ.anil (k:=?_)
      intro sx _
      repeat (first|refine Td ?_|(refine Tm ?_;intro _)|refine Tc ?_|exact Tz)
theorem c_gExp (a n:Nat) (ha:a<B256) (hn:n<B256) (hp:p<B256):Fn Tryz.prog 22 [grpV p q g h,numV a,numV n] Tr (Is (rE (gMay p a) (a ^ n%p))):=by
  have hM:=c_may p q g h a ha hp
  cases hy:gMay p a with
  | true =>
    have hE:=c_Exp a n p ha hn hp
    rw[gMay_mayN hy] at hE
    rw[hy] at hM
    refine Fn.enter Tryz.func22 rfl rfl rfl ?_
    intro w hw
    repeat (first|refine Td ?_|(refine Tm ?_;intro _)|refine WO.acall (hc:=hM) (k:=?_)|refine WO.acall (hc:=hE) (k:=?_)|refine Tc ?_|exact Tz)
  | false =>
    rw[hy] at hM
    refine Fn.enter Tryz.func22 rfl rfl rfl ?_
    intro w hw
    repeat (first|refine Td ?_|(refine Tm ?_;intro _)|refine WO.acall (hc:=hM) (k:=?_)|refine Tc ?_|exact Tz)
def gIn (p q a:Nat):Bool:=gMay p a && decide (a ^ q%p=1)
theorem c_gIn (a:Nat) (ha:a<B256) (hp:p<B256) (hq:q<B256):Fn Tryz.prog 156 [grpV p q g h,numV a] Tr (Is (.bool (gIn p q a))):=by
  have hE:=c_gExp p q g h a q ha hq hp
  cases hy:gMay p a with
  | true =>
    rw[hy] at hE
    have hB:a ^ q%p<B256:=Nat.lt_trans (Nat.mod_lt _ (by have:=gMay_spec hy;omega)) hp
    have e:gIn p q a=decide (a ^ q%p=1):=by simp[gIn,hy]
    rw[e]
    generalize a ^ q%p=v at *
    refine Fn.enter Tryz.func156 rfl rfl rfl ?_
    intro w hw
    repeat (first|refine Td ?_|(refine Tm ?_;intro _)|refine WO.acall (hc:=hE) (k:=?_)|refine Tc ?_|exact Tz)
    by_cases hv:v=1
    · rw[decide_eq_true hv]
      refine WC.adraw 8 (k:=?_)
      repeat (first|refine DQ.decT (k:=?_)|refine DQ.decF (k:=?_)|refine Da ?_|refine DQ.acall (hc:=c_Of1) (k:=?_)|refine Dc ?_)
      refine DQ.anil (k:=?_)
      intro sx _
      repeat (first|refine Td ?_|(refine Tm ?_;intro _)|refine Tc ?_|exact Tz)
    · rw[decide_eq_false hv]
      refine WC.adraw 8 (k:=?_)
      repeat (first|refine DQ.decT (k:=?_)|refine DQ.decF (k:=?_)|refine Da ?_|refine DQ.acall (hc:=c_Of1) (k:=?_)|refine Dc ?_)
      refine DQ.anil (k:=?_)
      intro sx _
      repeat (first|refine Td ?_|(refine Tm ?_;intro _)|refine Tc ?_|exact Tz)
  | false =>
    have e:gIn p q a=false:=by simp[gIn,hy]
    rw[hy] at hE
    rw[e]
    refine Fn.enter Tryz.func156 rfl rfl rfl ?_
    intro w hw
    repeat (first|refine Td ?_|(refine Tm ?_;intro _)|refine WO.acall (hc:=hE) (k:=?_)|refine Tc ?_|exact Tz)
    refine WC.adraw 8 (k:=?_)
    repeat (first|refine DQ.decT (k:=?_)|refine DQ.decF (k:=?_)|refine Da ?_|refine DQ.acall (hc:=c_Of1) (k:=?_)|refine Dc ?_)
    refine DQ.anil (k:=?_)
    intro sx _
    repeat (first|refine Td ?_|(refine Tm ?_;intro _)|refine Tc ?_|exact Tz)
end
end Sx
end Go.Proofs.YtiiacjladnljhaaGreatDoor
