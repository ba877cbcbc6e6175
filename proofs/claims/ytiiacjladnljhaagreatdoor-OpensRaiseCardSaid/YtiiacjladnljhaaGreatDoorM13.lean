/- Part 13 of the proof: LimC, Bits, LimD, DivA, DivB, DivW -/
import Derived.Test.YtiiacjladnljhaaGreatDoorM12
import Derived.Test.YtiiacjladnljhaaGreatDoorM07
import Derived.DeepKeys
import Derived.Lib.ItoaNum
import Derived.Laws.BitsAllLaws
set_option linter.unusedSimpArgs false
set_option linter.unusedVariables false
namespace Go.Proofs.YtiiacjladnljhaaGreatDoor
open Go.RowKit
theorem B64_lt (n:Nat) (h:n<18446744073709551616):n<B256:=by unfold B256;omega
theorem numV_small (n:Nat) (h:n<18446744073709551616):Value.agg #[.int .u64 (n:Int),.int .u64 0,.int .u64 0,.int .u64 0]=numV n:=by
  have:=numV_of h (by omega:0<18446744073709551616) (by omega:0<18446744073709551616) (by omega:0<18446744073709551616)
  simpa [val4] using this
theorem limbs_Of (n:Nat) (h:n<18446744073709551616) (w:World) :
    Calls Tryz.prog 159 #[.int .u64 (n:Int)] w fun e w'=>e=.returned (numV n)∧Below w.heap.size w w':=by
  go_enter Tryz.func159,Tryz.ntmps159
  go_wp2
  refine bodyPost_ret (v:=numV n) ?_ rfl ⟨rfl,?_⟩
  · rw[← numV_small n h]
    simp[results,Tryz.results159,go_sem]
  · exact (Below.refl _ _).alloc (Nat.le_refl _) _
def eqN (a b:Nat):Bool:=decide (a=b)
theorem key_word (n:Nat) (h:n<18446744073709551616):Tryz.prog.keyLits 1 22 [.int .u64 (n:Int)]=some [.int .u64 (n:Int)]:=by
  have hw:(Lit.int .u64 (n:Int)).wf=true:=by
    simp[Lit.wf,IntKind.min,IntKind.max,IntKind.signed,IntKind.bits];omega
  simp[Program.keyLits,Tryz.underlying22,hw]
theorem key_num (a:Nat):Tryz.prog.keyLits 2 24 (numC a)=some [.int .u64 ((wd 0 a:Nat):Int),.int .u64 ((wd 1 a:Nat):Int),.int .u64 ((wd 2 a:Nat):Int),.int .u64 ((wd 3 a:Nat):Int)]:=by
  have c1:Tryz.prog.cellsOf 24=4:=by kernel_rfl
  have c2:Tryz.prog.cellsOf 22=1:=by kernel_rfl
  have k:=fun i=>key_word (wd i a) (wd_lt i a)
  have r:List.range 4=[0,1,2,3]:=rfl
  unfold Program.keyLits
  simp[Tryz.underlying24,c1,c2,r,k]
theorem run_eq_num {a b:Nat} (ha:a<B256) (hb:b<B256) (w:World) :
    (binOp .eql 24 (numV a) (numV b)).run Tryz.prog w=.ok (.bool (eqN a b)) w:=by
  obtain⟨r,hr,hiff⟩:=run_equalIn_deep (P:=Tryz.prog) 9998 2 24 (by kernel_rfl) w 2 2 (numV a) (numV b)
    [.int .u64 ((wd 0 a:Nat):Int),.int .u64 ((wd 1 a:Nat):Int),.int .u64 ((wd 2 a:Nat):Int),.int .u64 ((wd 3 a:Nat):Int)]
    [.int .u64 ((wd 0 b:Nat):Int),.int .u64 ((wd 1 b:Nat):Int),.int .u64 ((wd 2 b:Nat):Int),.int .u64 ((wd 3 b:Nat):Int)]
    (by kernel_rfl) (by kernel_rfl) (key_num a) (key_num b)
  have e:r=eqN a b:=by
    unfold eqN
    rw[Bool.eq_iff_iff,hiff]
    simp only[decide_eq_true_eq,List.cons.injEq,Lit.int.injEq,true_and,and_true,Int.ofNat_inj]
    constructor
    · rintro ⟨h0,h1,h2,h3⟩;exact wd_inj ha hb h0 h1 h2 h3
    · rintro rfl;exact⟨rfl,rfl,rfl,rfl⟩
  subst e
  simp only[run_eql_struct,hr,Result.andThen]
theorem run_eqin_num {a b:Nat} (ha:a<B256) (hb:b<B256) (w:World) :
    (Op.equalIn 10000 24 (numV a) (numV b)).run Tryz.prog w=.ok (eqN a b) w:=by
  have:=run_eq_num ha hb w
  rw[run_eql_struct] at this
  cases h:(Op.equalIn 10000 24 (numV a) (numV b)).run Tryz.prog w with
  | ok r w'=>rw[h] at this;simp only[Result.andThen,Result.ok.injEq,Value.bool.injEq] at this;rw[this.1,this.2]
  | halt h' w'=>rw[h] at this;simp[Result.andThen] at this
attribute [local go_sem] run_eqin_num
theorem eqN_yes {a b:Nat} (h:a=b):eqN a b=true:=by simp[eqN,h]
theorem eqN_no {a b:Nat} (h:a≠b):eqN a b=false:=by simp[eqN,h]
def cmpN (a b:Nat):Int:=if a=b then 0 else if a<b then -1 else 1
theorem limbs_Cmp (a b:Nat) (ha:a<B256) (hb:b<B256) (w:World) :
    Calls Tryz.prog 158 #[numV a,numV b] w fun e w'=>e=.returned (.int .i64 (cmpN a b))∧Below w.heap.size w w':=by
  by_cases hab:a=b
  · have he:=eqN_yes hab
    have hc:cmpN a b=0:=by simp[cmpN,hab]
    clear hab
    go_enter Tryz.func158,Tryz.ntmps158
    go_wp2
    go_ret
    exact⟨by simp[hc],((Ext.rfl' w).alloc' _).alloc' _⟩
  · have he:=eqN_no hab
    by_cases hlt:a<b
    · have hc:cmpN a b = -1:=by simp[cmpN,hab,hlt]
      have hbw:bw a b 0=1:=by simp[bw,hlt]
      clear hab
      go_enter Tryz.func158,Tryz.ntmps158
      go_wp2_with (go_at_call 217;refine (limbs_Sub a b ha hb _).mono ?_;rintro e w1 ⟨rfl,hb1⟩)
      go_ret
      exact⟨by simp[hc],(((((Ext.rfl' w).alloc' _).alloc' _).trans' hb1).alloc' _)⟩
    · have hc:cmpN a b=1:=by simp[cmpN,hab,hlt]
      have hbw:bw a b 0=0:=by simp[bw,hlt]
      clear hab
      go_enter Tryz.func158,Tryz.ntmps158
      go_wp2_with (go_at_call 217;refine (limbs_Sub a b ha hb _).mono ?_;rintro e w1 ⟨rfl,hb1⟩)
      go_ret
      exact⟨by simp[hc],(((((Ext.rfl' w).alloc' _).alloc' _).trans' hb1).alloc' _)⟩
end Go.Proofs.YtiiacjladnljhaaGreatDoor
namespace Go.Proofs.YtiiacjladnljhaaGreatDoor
def bitsN (a:Nat):Nat:=if a=0 then 0 else a.log2+1
theorem bitsN_zero:bitsN 0=0:=rfl
theorem bitsN_unique {x k:Nat} (hk:1≤k) (h1:2 ^ (k - 1)≤x) (h2:x<2 ^ k):bitsN x=k:=by
  have hx:x≠0:=by have:=Nat.two_pow_pos (k - 1);omega
  unfold bitsN
  rw[if_neg hx]
  have a:=(Nat.log2_lt hx).2 h2
  have b:=(Nat.le_log2 hx).2 h1
  omega
theorem bitsN_bounds {x:Nat} (hx:x≠0):1≤bitsN x∧2 ^ (bitsN x - 1)≤x∧x<2 ^ bitsN x:=by
  unfold bitsN
  rw[if_neg hx]
  exact⟨by omega,by simpa using Nat.log2_self_le hx,Nat.lt_log2_self⟩
theorem lt_bitsN (x:Nat):x<2 ^ bitsN x:=by
  by_cases hx:x=0
  · subst hx;simp[bitsN]
  · exact (bitsN_bounds hx).2.2
theorem bitsN_le {x k:Nat} (h:x<2 ^ k):bitsN x≤k:=by
  by_cases hx:x=0
  · subst hx;simp[bitsN]
  · unfold bitsN
    rw[if_neg hx]
    have:=(Nat.log2_lt hx).2 h
    omega
theorem bitsN_le_iff {x k:Nat}:bitsN x≤k↔x<2 ^ k :=
  ⟨fun h=>Nat.lt_of_lt_of_le (lt_bitsN x) (Nat.pow_le_pow_right (by omega) h),bitsN_le⟩
theorem bitLen_eq {x:Nat} (h:x<18446744073709551616):Lib.bitLen x=bitsN x:=by
  by_cases hx:x=0
  · subst hx;rfl
  · obtain⟨h1,h2,h3⟩:=Lib.bitLenAux_bounds 64 x h hx
    exact (bitsN_unique h1 h2 h3).symm
theorem bitsN_shift {x lo s:Nat} (hx:x≠0) (hl:lo<2 ^ s):bitsN (lo+2 ^ s*x)=s+bitsN x:=by
  obtain⟨h1,h2,h3⟩:=bitsN_bounds hx
  refine bitsN_unique (by omega) ?_ ?_
  · rw[show s+bitsN x - 1=s+(bitsN x - 1) by omega,Nat.pow_add]
    have:=Nat.mul_le_mul_left (2 ^ s) h2
    omega
  · rw[Nat.pow_add]
    have:=Nat.mul_le_mul_left (2 ^ s) h3
    rw[Nat.mul_succ] at this
    omega
theorem bits_words {a:Nat} (ha:a<B256) {i:Nat} (hi:i<4) (hz:∀ j,i<j→j<4→wd j a=0) (hx:wd i a≠0):bitsN a=64*i+bitsN (wd i a):=by
  have hv:=val4_wd ha
  have l0:=wd_lt 0 a;have l1:=wd_lt 1 a;have l2:=wd_lt 2 a
  have:i=0∨i=1∨i=2∨i=3:=by omega
  rcases this with rfl|rfl|rfl|rfl
  · have z1:=hz 1 (by omega) (by omega);have z2:=hz 2 (by omega) (by omega);have z3:=hz 3 (by omega) (by omega)
    rw[z1,z2,z3] at hv
    have e:wd 0 a=a:=by simp only[val4] at hv;omega
    rw[e];omega
  · have z2:=hz 2 (by omega) (by omega);have z3:=hz 3 (by omega) (by omega)
    rw[z2,z3] at hv
    have e:a=wd 0 a+2 ^ 64*wd 1 a:=by simp only[val4] at hv;omega
    have:=bitsN_shift (s:=64) hx (show wd 0 a<2 ^ 64 by omega)
    rw[← e] at this
    omega
  · have z3:=hz 3 (by omega) (by omega)
    rw[z3] at hv
    have e:a=(wd 0 a+18446744073709551616*wd 1 a)+2 ^ 128*wd 2 a:=by simp only[val4] at hv;omega
    have:=bitsN_shift (s:=128) hx (show wd 0 a+18446744073709551616*wd 1 a<2 ^ 128 by omega)
    rw[← e] at this
    omega
  · have e:a=(wd 0 a+18446744073709551616*wd 1 a+340282366920938463463374607431768211456*wd 2 a)+2 ^ 192*wd 3 a:=by simp only[val4] at hv;omega
    have:=bitsN_shift (s:=192) hx (show wd 0 a+18446744073709551616*wd 1 a+340282366920938463463374607431768211456*wd 2 a<2 ^ 192 by omega)
    rw[← e] at this
    omega
theorem bits_none {a:Nat} (ha:a<B256) (hz:∀ j,j<4→wd j a=0):a=0:=by
  have hv:=val4_wd ha
  rw[hz 0 (by omega),hz 1 (by omega),hz 2 (by omega),hz 3 (by omega)] at hv
  simp[val4] at hv
  omega
def bitN (a i:Nat):Nat:=a / 2 ^ i%2
theorem bitN_le (a i:Nat):bitN a i≤1:=by unfold bitN;omega
theorem bit_word {a:Nat} (ha:a<B256) (i r:Nat) (hi:i<4) (hr:r<64):wd i a / 2 ^ r%2=bitN a (64*i+r):=by
  unfold bitN
  rw[Nat.pow_add,← Nat.div_div_eq_div_mul]
  have:i=0∨i=1∨i=2∨i=3:=by omega
  have gen:∀ n:Nat,n%18446744073709551616 / 2 ^ r%2=n / 2 ^ r%2:=by
    intro n
    have e:(18446744073709551616:Nat)=2 ^ r*(2*2 ^ (63 - r)):=by
      rw[← Nat.pow_succ',← Nat.pow_add,show r+(63 - r+1)=64 by omega]
    rw[e,Nat.mod_mul_right_div_self,Nat.mod_mul_right_mod]
  rcases this with rfl|rfl|rfl|rfl<;>simp only[wd,gen]<;>simp
theorem bitN_high {a:Nat} (ha:a<B256) {i:Nat} (hi:256≤i):bitN a i=0:=by
  unfold bitN
  have:a / 2 ^ i=0:=Nat.div_eq_of_lt (Nat.lt_of_lt_of_le (show a<2 ^ 256 by unfold B256 at ha;omega) (Nat.pow_le_pow_right (by omega) hi))
  rw[this]
end Go.Proofs.YtiiacjladnljhaaGreatDoor
namespace Go.Proofs.YtiiacjladnljhaaGreatDoor
open Go.RowKit
theorem zero_up {a k:Nat} (hx:wd k a=0) (hz:∀ j,k<j→j<4→wd j a=0) (j:Nat) (h1:k≤j) (h2:j<4):wd j a=0:=by
  rcases Nat.lt_or_eq_of_le h1 with h|h
  · exact hz j h h2
  · subst h;exact hx
theorem limbs_Bits (a:Nat) (ha:a<B256) (w:World) :
    Calls Tryz.prog 161 #[numV a] w fun e w'=>e=.returned (.int .i64 (bitsN a:Nat))∧Below w.heap.size w w':=by
  go_enter Tryz.func161,Tryz.ntmps161
  go_wp2
  generalize hW:w.alloc _=W
  have hg0:Blk W w.heap.size 24 (numC a):=by subst hW;exact Blk.new _ _ _
  have hb:Below w.heap.size w W:=by subst hW;exact (Ext.rfl' w).alloc' _
  clear hW
  go_loop [3] (fun i=>(i=.int .i64 (-1)∧∀ j,j<4→wd j a=0)∨∃ k:Nat,k<4∧i=.int .i64 k∧∀ j,k<j→j<4→wd j a=0) (fun i=>(intOf i+1).toNat)
  case atStart=>exact .inr ⟨3,by omega,rfl,fun j h1 h2=>by omega⟩
  case round =>
    rcases hrel with ⟨rfl,hz⟩|⟨k,hk,rfl,hz⟩
    · have hres:=bits_none ha hz
      subst hres
      clear hz
      go_wp2
      go_ret
      exact⟨by simp[bitsN],hb⟩
    · have c0:=hg0.cell_at (numC_get a hk)
      by_cases hx:wd k a=0
      · have Hz:=Lib.hid hz;clear hz
        go_wp2
        go_round
        case rel =>
          by_cases h0:k=0
          · subst h0
            exact .inl ⟨rfl,fun j hj=>zero_up hx Hz.out j (by omega) hj⟩
          · exact .inr ⟨k - 1,by omega,by rw[show ((k - 1:Nat):Int)=(k:Int) - 1 by omega],fun j h1 h2=>zero_up hx Hz.out j (by omega) h2⟩
        case measure=>first|(simp[intOf];done)|(simp[intOf];omega)
      · have hres:=bits_words ha hk hz hx
        have Hr:=Lib.hid hres;clear hres hz
        have hpos:0<wd k a:=by omega
        have hle:=wd_le k a
        have hlb:=bitsN_le (k:=64) (wd_lt k a)
        have hbl:=bitLen_eq (wd_lt k a)
        go_wp2_with (go_at_call 178;refine (Tryz.bits_Len64 _ _ (by omega) (by omega)).mono ?_;rintro e w1 ⟨rfl,rfl⟩)
        go_ret
        refine⟨?_,hb⟩
        rw[Hr.out]
        exact congrArg (fun z:Int=>Ending.returned (.int .i64 z)) (by simp)
theorem and_one (n:Nat) (h:n<18446744073709551616):bits .and .u64 (n:Int) 1=((n%2:Nat):Int):=by
  have:=u64_and_nat n 1 h (by omega)
  rw[nat_mask1] at this
  exact this
theorem limbs_Bit (a:Nat) (i:Int) (ha:a<B256) (hi0:0≤i) (hi1:i≤1000000) (w:World) :
    Calls Tryz.prog 218 #[numV a,.int .i64 i] w fun e w'=>e=.returned (.int .u64 (bitN a i.toNat:Nat))∧Below w.heap.size w w':=by
  obtain⟨n,rfl⟩:=Int.eq_ofNat_of_zero_le hi0
  rw[Int.toNat_natCast]
  by_cases h:n<256
  · have hq:n / 64<4:=by omega
    have hb:=bit_word ha (n / 64) (n%64) hq (Nat.mod_lt _ (by omega))
    rw[show 64*(n / 64)+n%64=n by omega] at hb
    have hw:=wd_lt (n / 64) a
    have hw2:wd (n / 64) a / 2 ^ (n%64)<18446744073709551616:=Nat.lt_of_le_of_lt (Nat.div_le_self _ _) hw
    have ho:=and_one _ hw2
    have Hb:=Lib.hid hb;clear hb
    have c0:=(Blk.new w 24 (numC a)).cell_at (numC_get a hq)
    have hd1:decide ((n:Int)<0)=false:=by simp
    have hd2:decide (256≤(n:Int))=false:=by simp;omega
    go_enter Tryz.func218,Tryz.ntmps218
    go_wp2
    go_ret
    refine⟨congrArg (fun z:Int=>Ending.returned (.int .u64 z)) ?_,(Ext.rfl' w).alloc' _⟩
    show bits .and .u64 ((wd (n / 64) a:Nat) / 2 ^ (n%64):Int) 1=_
    rw[show ((wd (n / 64) a:Nat) / 2 ^ (n%64):Int)=((wd (n / 64) a / 2 ^ (n%64):Nat):Int) by simp,ho,Hb.out]
  · have hb:=bitN_high ha (i:=n) (by omega)
    have hd1:decide ((n:Int)<0)=false:=by simp
    have hd2:decide (256≤(n:Int))=true:=by simp;omega
    go_enter Tryz.func218,Tryz.ntmps218
    go_wp2
    go_ret
    exact⟨by simp[hb],(Ext.rfl' w).alloc' _⟩
theorem times_words (a b c d:Nat) (ha:a<18446744073709551616) (hb:b<18446744073709551616) (hc:c<18446744073709551616) (hd:d<18446744073709551616) :
    a*b / 18446744073709551616≤18446744073709551614∧a*b%18446744073709551616<18446744073709551616 ∧
    (a*b%18446744073709551616+c) / 18446744073709551616≤1∧((a*b%18446744073709551616+c)%18446744073709551616+d) / 18446744073709551616≤1 ∧
    a*b / 18446744073709551616+(a*b%18446744073709551616+c) / 18446744073709551616+((a*b%18446744073709551616+c)%18446744073709551616+d) / 18446744073709551616≤18446744073709551615 ∧
    (a*b+c+d)%18446744073709551616=((a*b%18446744073709551616+c)%18446744073709551616+d)%18446744073709551616 ∧
    (a*b+c+d) / 18446744073709551616=a*b / 18446744073709551616+(a*b%18446744073709551616+c) / 18446744073709551616+((a*b%18446744073709551616+c)%18446744073709551616+d) / 18446744073709551616:=by
  have hm:a*b≤18446744073709551615*18446744073709551615:=Nat.mul_le_mul (by omega) (by omega)
  generalize a*b=p at *
  omega
theorem limbs_times (a b c d:Nat) (ha:a<18446744073709551616) (hb:b<18446744073709551616) (hc:c<18446744073709551616) (hd:d<18446744073709551616) (w:World) :
    Calls Tryz.prog 251 #[.int .u64 (a:Int),.int .u64 (b:Int),.int .u64 (c:Int),.int .u64 (d:Int)] w fun e w' =>
      e=.returned (.tuple #[.int .u64 (((a*b+c+d)%18446744073709551616:Nat):Int),.int .u64 (((a*b+c+d) / 18446744073709551616:Nat):Int)])∧w=w':=by
  have hA0:∀ (x y:Nat) (w:World),(callFunc 257 #[.int .u64 x,.int .u64 y,.int .u64 0]).run Tryz.prog w =
      .ok (.value (.tuple #[.int .u64 (((x+y)%18446744073709551616:Nat):Int),.int .u64 (((x+y) / 18446744073709551616:Nat):Int)])) w:=fun x y w=>run_Add64 x y 0 (by omega) w
  have hM:=Tryz.bits_Mul64 a b ha hb
  obtain⟨h1,h2,h3,h4,h5,e1,e2⟩:=times_words a b c d ha hb hc hd
  rw[e1,e2]
  clear e1 e2
  generalize a*b / 18446744073709551616=H at *
  generalize a*b%18446744073709551616=L at *
  have A1:=hA0 L c
  generalize (L+c)%18446744073709551616=S1 at *
  generalize (L+c) / 18446744073709551616=C1 at *
  have A2:=hA0 S1 d
  generalize (S1+d)%18446744073709551616=S2 at *
  generalize (S1+d) / 18446744073709551616=C2 at *
  clear hA0
  have HM:=Lib.hid hM;clear hM
  go_enter Tryz.func251,Tryz.ntmps251
  go_wp2_with (go_at_call 219;refine (HM.out _).mono ?_;rintro e w1 ⟨rfl,rfl⟩)
  go_ret2
  exact⟨by simp,rfl⟩
end Go.Proofs.YtiiacjladnljhaaGreatDoor
namespace Go.Proofs.YtiiacjladnljhaaGreatDoor
open Go.RowKit
def shortN (a:Nat):Bool:=decide (a<18446744073709551616)
theorem short_bits (a:Nat):decide (((bitsN a:Nat):Int)≤64)=shortN a:=by
  unfold shortN
  have:=bitsN_le_iff (x:=a) (k:=64)
  rw[show (2:Nat) ^ 64=18446744073709551616 by decide] at this
  by_cases h:a<18446744073709551616<;>simp[h]<;>omega
theorem divides_short (a:Nat) (ha:a<B256) (w:World) :
    Calls Tryz.prog 252 #[numV a] w fun e w'=>e=.returned (.bool (shortN a))∧Below w.heap.size w w':=by
  have hs:=short_bits a
  go_enter Tryz.func252,Tryz.ntmps252
  go_wp2_with (go_at_call 161;refine (limbs_Bits a ha _).mono ?_;rintro e w1 ⟨rfl,hb1⟩)
  go_ret
  exact⟨by simp,((Ext.rfl' w).alloc' _).trans' hb1⟩
abbrev zeroC:List Value:=[.int .u64 0,.int .u64 0,.int .u64 0,.int .u64 0]
theorem or_bit (r b:Nat) (hr:r<B256) (hb:b≤1) :
    bits .or .u64 ((wd 0 ((r+r)%B256):Nat):Int) (b:Int)=((wd 0 ((r+r)%B256+b):Nat):Int) ∧
    wd 1 ((r+r)%B256)=wd 1 ((r+r)%B256+b)∧wd 2 ((r+r)%B256)=wd 2 ((r+r)%B256+b)∧wd 3 ((r+r)%B256)=wd 3 ((r+r)%B256+b)∧(r+r)%B256+b<B256:=by
  have hev:∃ k,(r+r)%B256=2*k∧2*k+b<B256:=by
    refine⟨r%57896044618658097711785492504343953926634992332820282019728792003956564819968,?_,?_⟩
    · rw[← Nat.two_mul,show B256=2*57896044618658097711785492504343953926634992332820282019728792003956564819968 by decide,Nat.mul_mod_mul_left]
    · have:=Nat.mod_lt r (show 0<57896044618658097711785492504343953926634992332820282019728792003956564819968 by omega)
      have h:2*(r%57896044618658097711785492504343953926634992332820282019728792003956564819968)+b<115792089237316195423570985008687907853269984665640564039457584007913129639936:=by omega
      exact h
  obtain⟨k,hk,hlt⟩:=hev
  rw[hk]
  have hev2:∃ j,wd 0 (2*k)=2*j∧wd 0 (2*k+b)=2*j+b:=⟨wd 0 (2*k) / 2,by simp only[wd];omega,by simp only[wd];omega⟩
  obtain⟨j,hj,hj2⟩:=hev2
  have hjl:=wd_lt 0 (2*k)
  refine⟨?_,?_,?_,?_,hlt⟩
  · rw[u64_or_nat _ _ (wd_lt _ _) (by omega),hj,hj2]
    have:=Nat.two_pow_add_eq_or_of_lt (i:=1) (b:=b) (by omega) j
    rw[← this]
  all_goals (simp only[wd];omega)
def remN (r b m:Nat):Nat:=(r+r+b)%m
def quoN (r b m:Nat):Nat:=(r+r+b) / m
theorem next_no {r b m:Nat} (hr:r<m) (hm:m<B256) (hb:b≤1) (h:r+r+b<m) :
    (r+r) / B256=0∧bw ((r+r)%B256+b) m 0=1∧remN r b m=(r+r)%B256+b∧quoN r b m=0:=by
  have e:(r+r)%B256=r+r:=Nat.mod_eq_of_lt (by omega)
  refine⟨Nat.div_eq_of_lt (by omega),?_,?_,Nat.div_eq_of_lt h⟩
  · rw[e];simp[bw];omega
  · rw[e];exact Nat.mod_eq_of_lt h
theorem next_yes {r b m:Nat} (hr:r<m) (hm:m<B256) (hb:b≤1) (h:m≤r+r+b) :
    ((r+r) / B256=1∨((r+r) / B256=0∧bw ((r+r)%B256+b) m 0=0))∧remN r b m=((r+r)%B256+b+B256 - m)%B256∧quoN r b m=1:=by
  have hq:quoN r b m=1:=by
    unfold quoN
    rw[Nat.div_eq_iff (by omega)];omega
  have hrm:remN r b m=r+r+b - m:=by
    unfold remN
    rw[Nat.mod_eq_sub_mod h,Nat.mod_eq_of_lt (by omega)]
  rw[hrm,hq]
  by_cases hc:r+r<B256
  · have e:(r+r)%B256=r+r:=Nat.mod_eq_of_lt hc
    refine⟨.inr ⟨Nat.div_eq_of_lt hc,by rw[e];simp[bw];omega⟩,?_,rfl⟩
    rw[e,show r+r+b+B256 - m=(r+r+b - m)+B256 by omega,Nat.add_mod_right,Nat.mod_eq_of_lt (by omega)]
  · have e:(r+r)%B256=r+r - B256:=by rw[Nat.mod_eq_sub_mod (by omega),Nat.mod_eq_of_lt (by omega)]
    refine⟨.inl ?_,?_,rfl⟩
    · rw[Nat.div_eq_iff (by unfold B256;omega)];omega
    · rw[e,show r+r - B256+b+B256 - m=r+r+b - m by omega,Nat.mod_eq_of_lt (by omega)]
set_option maxHeartbeats 1000000 in
theorem divides_next (r b m:Nat) (hr:r<m) (hm:m<B256) (hb:b≤1) (w:World) :
    Calls Tryz.prog 255 #[numV r,.int .u64 (b:Int),numV m] w fun e w' =>
      e=.returned (.tuple #[numV (remN r b m),.int .u64 (quoN r b m:Nat)])∧Below w.heap.size w w':=by
  have hrB:r<B256:=by omega
  obtain⟨o0,o1,o2,o3,hlt⟩:=or_bit r b hrB hb
  have hA:=fun w=>limbs_Add r r hrB hrB w
  have hS:=fun w=>limbs_Sub ((r+r)%B256+b) m hlt hm w
  have hcase:((r+r) / B256=0∧bw ((r+r)%B256+b) m 0=1∧remN r b m=(r+r)%B256+b∧quoN r b m=0) ∨
      ((r+r) / B256=1∧bw ((r+r)%B256+b) m 0=bw ((r+r)%B256+b) m 0∧remN r b m=((r+r)%B256+b+B256 - m)%B256∧quoN r b m=1) ∨
      ((r+r) / B256=0∧bw ((r+r)%B256+b) m 0=0∧remN r b m=((r+r)%B256+b+B256 - m)%B256∧quoN r b m=1):=by
    by_cases h:r+r+b<m
    · exact .inl (next_no hr hm hb h)
    · obtain⟨e1|⟨e1,e1'⟩,e2,e3⟩:=next_yes hr hm hb (by omega)
      · exact .inr (.inl ⟨e1,rfl,e2,e3⟩)
      · exact .inr (.inr ⟨e1,e1',e2,e3⟩)
  generalize (r+r) / B256=c at *
  generalize bw ((r+r)%B256+b) m 0=l at *
  generalize ((r+r)%B256+b+B256 - m)%B256=y at *
  generalize (r+r)%B256+b=X1 at *
  generalize (r+r)%B256=X at *
  rcases hcase with ⟨rfl,rfl,e3,e4⟩|⟨rfl,-,e3,e4⟩|⟨rfl,rfl,e3,e4⟩
  all_goals
    rw[e3,e4]
    clear e3 e4
    go_enter Tryz.func255,Tryz.ntmps255
    go_wp2_with (first|(go_at_call 229;refine (hA _).mono ?_;rintro e w1 ⟨rfl,hb1⟩;have hbw:Ext w w1:=((((Ext.rfl' w).alloc' _).alloc' _).alloc' _).trans' hb1;have g5:Blk w1 (w.heap.size+1) 24 (numC m):=((Blk.new' (by simp)).alloc _).below hb1 (by simp);have g6:Blk w1 (w.heap.size+1+1) 24 zeroC:=(Blk.new' (by simp)).below hb1 (by simp);have g6_l:=g6.lt;have g5_0:=g5.cell_at (i:=0) rfl;have g5_1:=g5.cell_at (i:=1) rfl;have g5_2:=g5.cell_at (i:=2) rfl;have g5_3:=g5.cell_at (i:=3) rfl;have g5_f:=g5.frozen;have g5_l:=g5.lt;have g5_m:=Nat.lt_succ_of_lt g5_l;have g5_n:=Nat.lt_succ_of_lt g5_m)|(go_at_call 217;refine (hS _).mono ?_;rintro e w2 ⟨rfl,hb2⟩;have hbw2:Ext w w2:=(hbw.alloc' _).trans' hb2;have g8:Blk w2 w1.heap.size 24 (numC X1):=(Blk.new w1 _ (numC X1)).below hb2 (by simp);have g8_0:=g8.cell_at (i:=0) rfl;have g8_1:=g8.cell_at (i:=1) rfl;have g8_2:=g8.cell_at (i:=2) rfl;have g8_3:=g8.cell_at (i:=3) rfl;have g8_f:=g8.frozen;have g8_l:=g8.lt;have g8_m:=Nat.lt_succ_of_lt g8_l;have g8_n:=Nat.lt_succ_of_lt g8_m;have g6' : Blk w2 (w.heap.size+1+1) 24 zeroC:=(g6.alloc _).below hb2 (by simp;omega);have g6'_0:=g6'.cell_at (i:=0) rfl;have g6'_1:=g6'.cell_at (i:=1) rfl;have g6'_2:=g6'.cell_at (i:=2) rfl;have g6'_3:=g6'.cell_at (i:=3) rfl;have g6'_f:=g6'.frozen;have g6'_l:=g6'.lt;have g6'_m:=Nat.lt_succ_of_lt g6'_l;have g6'_n:=Nat.lt_succ_of_lt g6'_m))
    have hsz:=hbw2.size
    refine bodyPost_ret (v:=.tuple #[numV _,.int .u64 _]) ?_ rfl ⟨rfl,?_⟩
    · simp[results,Tryz.results255,go_sem,g6'_0,g6'_1,g6'_2,g6'_3,g6'_l]
    · ((repeat' (with_reducible first|exact hbw2|refine Below.drew ?_|refine Below.drewN' ?_ _|refine Below.setCell ?_ ?_ _|refine Below.alloc ?_ ?_ _))<;>(first|omega|(simp;done)|(simp;omega)))
end Go.Proofs.YtiiacjladnljhaaGreatDoor
namespace Go.Proofs.YtiiacjladnljhaaGreatDoor
theorem wd_eq (n:Nat) {i:Nat} (h:i<4):wd i n=n / 2 ^ (64*i)%2 ^ 64:=by
  have:i=0∨i=1∨i=2∨i=3:=by omega
  rcases this with rfl|rfl|rfl|rfl<;>simp[wd]
theorem step_word (a i:Nat) (h:i<4):a / 2 ^ (64*i)=a / 2 ^ (64*(i+1))*18446744073709551616+wd i a:=by
  rw[wd_eq a h,show 64*(i+1)=64*i+64 by omega,Nat.pow_add,← Nat.div_div_eq_div_mul,show (2:Nat) ^ 64=18446744073709551616 by decide]
  generalize a / 2 ^ (64*i)=x
  omega
def leftN (a b k:Nat):Nat:=a / 2 ^ (64*k)%b
theorem leftN_lt (a k:Nat) {b:Nat} (hb:0<b):leftN a b k<b:=Nat.mod_lt _ hb
theorem left_word (a b i:Nat) (h:i<4) (hb:0<b):(leftN a b (i+1)*18446744073709551616+wd i a) / b=wd i (a / b)∧(leftN a b (i+1)*18446744073709551616+wd i a)%b=leftN a b i:=by
  have hs:=step_word a i h
  have hq:a / b / 2 ^ (64*i)=a / 2 ^ (64*i) / b:=by rw[Nat.div_div_eq_div_mul,Nat.div_div_eq_div_mul,Nat.mul_comm]
  have hw:=wd_lt i a
  unfold leftN
  rw[wd_eq (a / b) h,hq,hs]
  generalize a / 2 ^ (64*(i+1))=x at *
  generalize wd i a=d at *
  have e:x*18446744073709551616+d=x%b*18446744073709551616+d+b*(x / b*18446744073709551616):=by
    have:=Nat.div_add_mod x b
    have h2:b*(x / b*18446744073709551616)=(b*(x / b))*18446744073709551616:=by rw[Nat.mul_assoc]
    rw[h2]
    generalize b*(x / b)=y at *
    omega
  have hlt:(x%b*18446744073709551616+d) / b<18446744073709551616:=by
    rw[Nat.div_lt_iff_lt_mul hb]
    have:=Nat.mod_lt x hb
    generalize x%b=y at *
    have:(y+1)*18446744073709551616≤b*18446744073709551616:=Nat.mul_le_mul_right _ this
    rw[Nat.mul_comm b] at this
    omega
  rw[e,Nat.add_mul_div_left _ _ hb,Nat.add_mul_mod_self_left]
  refine⟨?_,rfl⟩
  rw[show (2:Nat) ^ 64=18446744073709551616 by decide,Nat.add_mul_mod_self_right,Nat.mod_eq_of_lt hlt]
theorem leftN_top {a b:Nat} (ha:a<B256):leftN a b 4=0:=by
  unfold leftN
  rw[Nat.div_eq_of_lt (by simpa [B256] using ha)]
  simp
theorem leftN_zero (a b:Nat):leftN a b 0=a%b:=by simp[leftN]
def qc (D k j:Nat):Nat:=if j<k then 0 else wd j D
def topN (D m:Nat):Nat:=D / 2 ^ m*2 ^ m
theorem topN_zero (D:Nat):topN D 0=D:=by simp[topN]
theorem topN_high {D m:Nat} (h:D<2 ^ m):topN D m=0:=by simp[topN,Nat.div_eq_of_lt h]
theorem wd_bit (n:Nat) {i:Nat} (h:i<4) (t:Nat):(wd i n).testBit t=(decide (t<64) && n.testBit (64*i+t)):=by
  rw[wd_eq n h,Nat.testBit_mod_two_pow,Nat.testBit_div_two_pow,Nat.add_comm t]
theorem topN_bit (D m t:Nat):(topN D m).testBit t=(decide (m≤t) && D.testBit t):=by
  unfold topN
  rw[Nat.mul_comm,Nat.testBit_two_pow_mul,Nat.testBit_div_two_pow]
  by_cases h:m≤t
  · simp[h,show t - m+m=t by omega]
  · simp[h]
theorem bitN_test (D m:Nat):bitN D m=(D.testBit m).toNat:=by
  unfold bitN
  rw[Nat.testBit_eq_decide_div_mod_eq]
  have:=Nat.mod_two_eq_zero_or_one (D / 2 ^ m)
  rcases this with h|h<;>simp[h]
theorem topN_other (D m:Nat) {j:Nat} (h:j<4) (hj:j≠m / 64):wd j (topN D (m+1))=wd j (topN D m):=by
  apply Nat.eq_of_testBit_eq
  intro t
  rw[wd_bit _ h,wd_bit _ h,topN_bit,topN_bit]
  by_cases ht:t<64
  · have:decide (m+1≤64*j+t)=decide (m≤64*j+t):=by
      rw[decide_eq_decide];omega
    rw[this]
  · simp[ht]
theorem one_bit (s:Nat):Nat.testBit 1 (s+1)=false:=by simp[Nat.testBit_succ]
theorem topN_same (D m:Nat) (h:m<256):wd (m / 64) (topN D (m+1)) ||| bitN D m*2 ^ (m%64)=wd (m / 64) (topN D m):=by
  apply Nat.eq_of_testBit_eq
  intro t
  rw[Nat.testBit_or,wd_bit _ (by omega),wd_bit _ (by omega),topN_bit,topN_bit,Nat.mul_comm (bitN D m),Nat.testBit_two_pow_mul,bitN_test]
  by_cases ht:t<64
  · by_cases h1:m%64=t
    · have e:64*(m / 64)+t=m:=by omega
      subst h1
      rw[e]
      cases D.testBit m<;>simp<;>omega
    · have e1:decide (m+1≤64*(m / 64)+t)=decide (m≤64*(m / 64)+t):=by rw[decide_eq_decide];omega
      rw[e1]
      by_cases h2:m%64≤t
      · obtain⟨s,hs⟩ : ∃ s,t - m%64=s+1:=⟨t - m%64 - 1,by omega⟩
        rw[hs]
        cases D.testBit m<;>simp[one_bit]
      · simp[h2]
  · rcases Nat.lt_or_ge t (m%64) with h2|h2
    · omega
    · obtain⟨s,hs⟩ : ∃ s,t - m%64=s+1:=⟨t - m%64 - 1,by omega⟩
      rw[hs]
      cases D.testBit m<;>simp[ht,one_bit]
theorem step_bit (a m:Nat):a / 2 ^ m=a / 2 ^ (m+1)+a / 2 ^ (m+1)+bitN a m:=by
  unfold bitN
  rw[Nat.pow_succ,← Nat.div_div_eq_div_mul]
  omega
theorem left_bit {a b:Nat} (m:Nat) (hb:0<b):(a / 2 ^ (m+1)%b+a / 2 ^ (m+1)%b+bitN a m)%b=a / 2 ^ m%b ∧
    (a / 2 ^ (m+1)%b+a / 2 ^ (m+1)%b+bitN a m) / b=bitN (a / b) m:=by
  have hs:=step_bit a m
  have hle:=bitN_le a m
  have hq:bitN (a / b) m=a / 2 ^ m / b%2:=by
    unfold bitN
    rw[Nat.div_div_eq_div_mul,Nat.div_div_eq_div_mul,Nat.mul_comm]
  rw[hq,hs]
  generalize a / 2 ^ (m+1)=x at *
  generalize bitN a m=d at *
  have e:x+x+d=x%b+x%b+d+b*(2*(x / b)):=by
    have:=Nat.div_add_mod x b
    have h2:b*(2*(x / b))=2*(b*(x / b)):=by rw[Nat.mul_left_comm]
    rw[h2]
    generalize b*(x / b)=y at *
    omega
  have hlt:(x%b+x%b+d) / b<2:=by
    rw[Nat.div_lt_iff_lt_mul hb]
    have:=Nat.mod_lt x hb
    omega
  rw[e,Nat.add_mul_div_left _ _ hb,Nat.add_mul_mod_self_left]
  refine⟨rfl,?_⟩
  rw[Nat.add_mul_mod_self_left,Nat.mod_eq_of_lt hlt]
end Go.Proofs.YtiiacjladnljhaaGreatDoor
namespace Go.Proofs.YtiiacjladnljhaaGreatDoor
def Dig (u d h l q r:Nat):Prop:=q*h+r=u∧(u*4294967296+d) / (h*4294967296+l)≤q
theorem Dig.start {u d h l:Nat} (hh:2147483648≤h) (hd:d<4294967296):Dig u d h l (u / h) (u%h):=by
  refine⟨by rw[Nat.mul_comm];exact Nat.div_add_mod u h,?_⟩
  have hp:0<h*4294967296+l:=by omega
  have hhp:0<h:=by omega
  rw[Nat.div_le_iff_le_mul_add_pred hp]
  have h1:=Nat.div_add_mod u h
  have h2:=Nat.mod_lt u hhp
  generalize u / h=q at *
  generalize u%h=r at *
  subst h1
  have:(h*4294967296+l)*q=(h*q)*4294967296+l*q:=by rw[Nat.add_mul,Nat.mul_right_comm]
  rw[this]
  have:(h*q+r)*4294967296+d=(h*q)*4294967296+r*4294967296+d:=by omega
  omega
theorem Dig.down {u d h l q r:Nat} (hD:Dig u d h l q r) (hu:u<h*4294967296+l) (hd:d<4294967296) (hh:2147483648≤h)
    (hc:4294967296≤q∨4294967296*r+d<q*l):1≤q∧Dig u d h l (q - 1) (r+h):=by
  obtain⟨h1,h2⟩:=hD
  have hp:0<h*4294967296+l:=by omega
  have hlt:(u*4294967296+d) / (h*4294967296+l)<q:=by
    rw[Nat.div_lt_iff_lt_mul hp]
    rcases hc with hc|hc
    · have:4294967296*(h*4294967296+l)≤q*(h*4294967296+l):=Nat.mul_le_mul_right _ hc
      generalize q*(h*4294967296+l)=z at *
      omega
    · have:q*(h*4294967296+l)=(q*h)*4294967296+q*l:=by rw[Nat.mul_add,Nat.mul_assoc]
      rw[this]
      omega
  have hq0:=Nat.lt_of_le_of_lt (Nat.zero_le _) hlt
  obtain⟨q',rfl⟩ : ∃ q',q=q' + 1:=⟨q - 1,by omega⟩
  refine⟨by omega,?_,Nat.le_of_lt_succ hlt⟩
  simp only[Nat.add_sub_cancel]
  rw[Nat.add_mul,Nat.one_mul] at h1
  omega
theorem Dig.stop {u d h l q r:Nat} (hD:Dig u d h l q r) (hq:q*l≤4294967296*r+d) (hh:2147483648≤h):q=(u*4294967296+d) / (h*4294967296+l):=by
  obtain⟨h1,h2⟩:=hD
  have hp:0<h*4294967296+l:=by omega
  refine Nat.le_antisymm ?_ h2
  rw[Nat.le_div_iff_mul_le hp]
  have:q*(h*4294967296+l)=(q*h)*4294967296+q*l:=by rw[Nat.mul_add,Nat.mul_assoc]
  rw[this]
  omega
theorem Dig.break_ {u d h l q r:Nat} (hD:Dig u d h l q r) (hr:4294967296≤r) (hu:u<h*4294967296+l) (hl:l<4294967296) (hh:2147483648≤h):q=(u*4294967296+d) / (h*4294967296+l):=by
  refine hD.stop ?_ hh
  obtain⟨h1,h2⟩:=hD
  have hq:q<4294967296:=by
    rcases Nat.lt_or_ge q 4294967296 with h3|h3
    · exact h3
    · have:4294967296*h≤q*h:=Nat.mul_le_mul_right _ h3
      omega
  have:q*l≤4294967295*4294967295:=Nat.mul_le_mul (by omega) (by omega)
  omega
theorem Dig.le {u d h l q r:Nat} (hD:Dig u d h l q r) (hu:u<18446744073709551616) (hh:2147483648≤h):q<8589934592∧r≤u:=by
  obtain⟨h1,_⟩:=hD
  refine⟨?_,by omega⟩
  rcases Nat.lt_or_ge q 8589934592 with h3|h3
  · exact h3
  · have:8589934592*2147483648≤q*h:=Nat.mul_le_mul h3 hh
    omega
theorem digit_lt {u d Y:Nat} (hu:u<Y) (hd:d<4294967296):(u*4294967296+d) / Y<4294967296:=by
  rw[Nat.div_lt_iff_lt_mul (by omega)]
  omega
theorem norm_words {hi lo y s:Nat} (hs:s<64) (hy:y*2 ^ s<18446744073709551616) (hhi:hi<y) (hlo:lo<18446744073709551616) :
    hi*2 ^ s+lo / 2 ^ (64 - s)<y*2 ^ s ∧
    (hi*2 ^ s+lo / 2 ^ (64 - s))*18446744073709551616+lo*2 ^ s%18446744073709551616=(hi*18446744073709551616+lo)*2 ^ s:=by
  have hp:0<2 ^ (64 - s):=Nat.two_pow_pos _
  have e:(18446744073709551616:Nat)=2 ^ s*2 ^ (64 - s):=by rw[← Nat.pow_add,show s+(64 - s)=64 by omega]
  have h1:lo / 2 ^ (64 - s)<2 ^ s:=by
    rw[Nat.div_lt_iff_lt_mul hp,← e]
    exact hlo
  have h2:(hi+1)*2 ^ s≤y*2 ^ s:=Nat.mul_le_mul_right _ hhi
  rw[Nat.add_mul] at h2
  refine⟨by omega,?_⟩
  have h3:lo*2 ^ s / 18446744073709551616=lo / 2 ^ (64 - s):=by
    rw[e,Nat.mul_comm (2 ^ s) (2 ^ (64 - s)),← Nat.div_div_eq_div_mul,Nat.mul_comm lo,Nat.div_div_eq_div_mul,Nat.mul_comm (2 ^ (64 - s)),← Nat.div_div_eq_div_mul,Nat.mul_div_cancel_left _ (Nat.two_pow_pos _)]
  have h4:=Nat.div_add_mod (lo*2 ^ s) 18446744073709551616
  rw[h3] at h4
  rw[Nat.add_mul,Nat.add_mul,Nat.mul_right_comm]
  omega
theorem or_words {hi lo s:Nat} (hs:s<64) (hlo:lo<18446744073709551616):(hi*2 ^ s) ||| (lo / 2 ^ (64 - s))=hi*2 ^ s+lo / 2 ^ (64 - s):=by
  refine nat_join s _ _ (Nat.mul_mod_left _ _) ?_
  rw[Nat.div_lt_iff_lt_mul (Nat.two_pow_pos _),← Nat.pow_add,show s+(64 - s)=64 by omega]
  exact hlo
theorem two_digits {u d1 d0 Y q1 r1:Nat} (hY:0<Y) (e1:q1=(u*4294967296+d1) / Y) (e2:r1=(u*4294967296+d1)%Y) :
    q1*4294967296+(r1*4294967296+d0) / Y=(u*18446744073709551616+(d1*4294967296+d0)) / Y ∧
    (r1*4294967296+d0)%Y=(u*18446744073709551616+(d1*4294967296+d0))%Y:=by
  have h1:Y*q1+r1=u*4294967296+d1:=by rw[e1,e2];exact Nat.div_add_mod _ _
  clear e1 e2
  have h2:Y*(q1*4294967296)=(Y*q1)*4294967296:=by rw[Nat.mul_assoc]
  have e:u*18446744073709551616+(d1*4294967296+d0)=(r1*4294967296+d0)+Y*(q1*4294967296):=by
    rw[h2]
    generalize Y*q1=z at h1
    omega
  rw[e,Nat.add_mul_div_left _ _ hY,Nat.add_mul_mod_self_left]
  exact⟨Nat.add_comm _ _,rfl⟩
theorem norm_div {U y p:Nat} (hp:0<p):U*p / (y*p)=U / y∧U*p%(y*p) / p=U%y:=by
  refine⟨Nat.mul_div_mul_right _ _ hp,?_⟩
  rw[Nat.mul_mod_mul_right,Nat.mul_div_cancel _ hp]
theorem high_bit {y:Nat} (h0:y≠0) (h:y<18446744073709551616):bitsN y≤64∧1≤bitsN y∧9223372036854775808≤y*2 ^ (64 - bitsN y)∧y*2 ^ (64 - bitsN y)<18446744073709551616:=by
  obtain⟨h1,h2,h3⟩:=bitsN_bounds h0
  have h4:bitsN y≤64:=bitsN_le h
  refine⟨h4,h1,?_,?_⟩
  · have:=Nat.mul_le_mul_right (2 ^ (64 - bitsN y)) h2
    rw[← Nat.pow_add,show bitsN y - 1+(64 - bitsN y)=63 by omega] at this
    exact this
  · have:=Nat.mul_lt_mul_of_pos_right h3 (Nat.two_pow_pos (64 - bitsN y))
    rw[← Nat.pow_add,show bitsN y+(64 - bitsN y)=64 by omega] at this
    exact this
end Go.Proofs.YtiiacjladnljhaaGreatDoor
