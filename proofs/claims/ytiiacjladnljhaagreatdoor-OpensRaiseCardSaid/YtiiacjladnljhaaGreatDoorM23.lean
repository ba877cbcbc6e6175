/- Part 23 of the proof: RfE, RfF, RfG, RfH, RfI -/
import Derived.Test.YtiiacjladnljhaaGreatDoorM22
import Derived.Test.YtiiacjladnljhaaGreatDoorM10
set_option linter.unusedSimpArgs false
set_option linter.unusedVariables false
namespace Go.Proofs.YtiiacjladnljhaaGreatDoor
open Go Go.RowKit
namespace Sx
attribute [local irreducible] wd DQ DQS WO WC WX
structure SubAt (X Y x:List Nat) (i c:Nat):Prop where
  len:x.length=16
  lt:∀ d∈x,d<65536
  rest:x.drop i=X.drop i
  sum:dval (x.take i)+dval (Y.take i)=dval (X.take i)+65536 ^ i*c
  one:c≤1
theorem SubAt.step {X Y x:List Nat} {i c:Nat} (h:SubAt X Y x i c) (hi:i<16) (hX:X.length=16) (hY:Y.length=16) (hYl:∀ d∈Y,d<65536) :
    SubAt X Y (x.set i ((x.getD i 0+65536 - Y.getD i 0 - c)%65536)) (i+1) (1 - (x.getD i 0+65536 - Y.getD i 0 - c) / 65536):=by
  have hx:=gD_lt h.lt (by decide) i
  have hy:=gD_lt hYl (by decide) i
  have h1:=h.one
  refine⟨by simpa using h.len,mem_set_lt h.lt (Nat.mod_lt _ (by decide)),by rw[drop_set_succ];exact drop_succ_of h.rest,?_,by omega⟩
  have:=h.len
  rw[take_set_succ (by omega),dval_take_succ (by omega),dval_take_succ (by omega),← getD_drop h.rest,Nat.pow_succ]
  have hs:=h.sum
  generalize x.getD i 0=u at *
  generalize Y.getD i 0=v at *
  generalize 65536 ^ i=P at *
  have e:(u+65536 - v - c)%65536+v+c=u+65536*(1 - (u+65536 - v - c) / 65536):=by omega
  generalize 1 - (u+65536 - v - c) / 65536=q at *
  generalize (u+65536 - v - c)%65536=r at *
  have e2:P*(r+v+c)=P*(u+65536*q):=by rw[e]
  rw[Nat.mul_add,Nat.mul_add,Nat.mul_add] at e2
  rw[← Nat.mul_assoc] at e2
  omega
set_option maxHeartbeats 1000000 in
theorem r_Sub (a b:Nat) (ha:a<B256) (hb:b<B256):Fn Tryz.prog 199 [numV a,numV b] Tr (Is (.tuple #[numV ((a+B256 - b)%B256),.int .u64 ((bw a b 0:Nat):Int)])):=by
  have hA:=r_Digits a ha
  have hB:=r_Digits b hb
  have hlA:=dgs_length 16 a
  have hlB:=dgs_length 16 b
  have hltA:=dgs_lt 16 a
  have hltB:=dgs_lt 16 b
  have hvA:dval (dgs 16 a)=a:=by rw[dval_dgs,B256_digits,Nat.mod_eq_of_lt ha]
  have hvB:dval (dgs 16 b)=b:=by rw[dval_dgs,B256_digits,Nat.mod_eq_of_lt hb]
  have hO:=fun l g hl hlt=>r_of l g 0 16 hl hlt
  generalize dgs 16 a=X at *
  generalize dgs 16 b=Y at *
  have h0:SubAt X Y X 0 0:=⟨hlA,hltA,rfl,by simp[dval],by decide⟩
  refine Fn.enter Tryz.func199 rfl rfl rfl ?_
  intro w hw
  repeat (first|refine Ta ?_|(refine Tm ?_;intro _)|refine WO.acall (hc:=hA) (k:=?_)|refine WO.acall (hc:=hB) (k:=?_)|refine WO.stores (s_row (hl:=hlA) (hc:=by rfl)) ?_|refine WO.stores (s_row (hl:=hlB) (hc:=by rfl)) ?_|refine Tc ?_|exact Tz)
  rename_i g2 g3 g4 g6 g7
  refine WC.loopI (σ:=Nat × List Nat × Nat) (fun s=>s.1≤16∧SubAt X Y s.2.1 s.1 s.2.2) (fun s=>[(4,pt g4),(6,pt g6),(7,pt g7),(8,.int .u64 (s.2.2:Int)),(9,.int .i64 (s.1:Int))]) (fun s=>[⟨g4,24,numC 0⟩,⟨g6,259,woC s.2.1⟩,⟨g7,259,woC Y⟩]) (fun s=>16 - s.1) (0,X,0) (fun s hs=>?_) ⟨Nat.zero_le _,h0⟩
  obtain⟨i,x,c⟩:=s
  obtain⟨hi,hS⟩:=hs
  dsimp only at hi hS ⊢
  have hlx:=hS.len
  have hc1:=hS.one
  by_cases hlt:i<16
  · have hn:=hS.step hlt hlA hlB hltB
    have hux:=gD_lt hS.lt (by decide) i
    have huy:=gD_lt hltB (by decide) i
    have a1:=add_u64 (x.getD i 0) 65536 (by omega)
    have a2:=sub_u64 (x.getD i 0+65536) (Y.getD i 0) (by omega) (by omega)
    have a3:=sub_u64 (x.getD i 0+65536 - Y.getD i 0) c (by omega) (by omega)
    have r1:=rem_nat (x.getD i 0+65536 - Y.getD i 0 - c) 65536
    have q1:=quo_u64 (x.getD i 0+65536 - Y.getD i 0 - c) 65536 (by omega)
    have s1:=sub_u64 1 ((x.getD i 0+65536 - Y.getD i 0 - c) / 65536) (by omega) (by omega)
    repeat (first|refine Ta ?_|(refine Tm ?_;intro _)|refine Tc ?_|exact Tz)
    refine WC.dT rfl (by omega) ?_
    repeat (first|refine Ta ?_|(refine Tm ?_;intro _)|refine Tc ?_|exact Tz)
    refine WC.adraw 11 (k:=?_)
    repeat (first|refine Da ?_|refine DQ.does (fun s _=>l_word (hi:=by omega)) Dp.const ?_|refine DQ.does (fun s _=>does_add rfl rfl a1) Dp.const ?_|refine DQ.does (fun s _=>does_sub rfl rfl a2) Dp.const ?_|refine DQ.does (fun s _=>does_sub rfl rfl a3) Dp.const ?_|refine Dc ?_)
    refine DQ.anil (k:=?_)
    intro sx _
    repeat (first|refine Ta ?_|(refine Tm ?_;intro _)|refine WO.does (does_rem rfl rfl (by decide) r1) ?_|refine WO.stores (s_word (hi:=by omega)) ?_|refine WO.does (does_quo rfl rfl (by decide) q1) ?_|refine WO.does (does_sub rfl rfl s1) ?_|refine Tc ?_|exact Tz)
    refine WX.metI (i+1,x.set i ((x.getD i 0+65536 - Y.getD i 0 - c)%65536),1 - (x.getD i 0+65536 - Y.getD i 0 - c) / 65536) (hs:=⟨⟨by show i+1≤16;omega,hn⟩,by show 16 - (i+1)<16 - i;omega⟩)
  · have hi16:i=16:=by omega
    have hsum:=hS.sum
    rw[hi16,dval_full hlx,dval_full hlA,dval_full hlB,B256_digits,hvA,hvB] at hsum
    have hxl:=dval_lt hS.lt
    rw[hlx,B256_digits] at hxl
    have hc:c=0∨c=1:=by omega
    have e1:(a+B256 - b)%B256=dval x:=by
      rcases hc with rfl|rfl
      · rw[show a+B256 - b=dval x+B256 by omega,Nat.add_mod_right,Nat.mod_eq_of_lt hxl]
      · rw[show a+B256 - b=dval x by omega,Nat.mod_eq_of_lt hxl]
    have e2:bw a b 0=c:=by
      unfold bw
      rcases hc with rfl|rfl
      · rw[if_neg (by omega)]
      · rw[if_pos (by omega)]
    rw[e1,e2]
    have hxo:=fun g=>hO x g hlx hS.lt
    generalize dval x=R at *
    repeat (first|refine Ta ?_|(refine Tm ?_;intro _)|refine Tc ?_|exact Tz)
    refine WC.dF rfl (by omega) ?_
    repeat (first|refine Ta ?_|(refine Tm ?_;intro _)|refine WO.does (does_sliceA rfl) ?_|refine WO.acallR (hc:=hxo _) (hR:=fun w' hm=>Hs.seg (by repeat (first|exact Hs.here|apply Hs.there)) hm) (k:=?_)|refine Tc ?_|exact Tz)
end Sx
end Go.Proofs.YtiiacjladnljhaaGreatDoor
namespace Go.Proofs.YtiiacjladnljhaaGreatDoor
open Go Go.RowKit
namespace Sx
attribute [local irreducible] wd DQ DQS WO WC WX
section
variable {P:Program} {w0:World} {gs:List Nat} {K:List (Nat × Value)} {L:List Ent}
theorem does_sliceATo {t len elem size g o ty h:Nat} {k:IntKind} {x y:Operand} [ArT P t len elem size] (hx:ev K x=some (.pointer (some ⟨g,o,none⟩))) (hy:ev K y=some (.int k (h:Int))) (hh:h≤len) :
    Does P w0 gs K L (.slice t x none (some y) none) ty (.slice (some ⟨g,o,none⟩) h len):=by
  intro a w hk _ oo ho _
  have hu:∀ w,(underlying t).run P w=.ok (.array len elem) w:=fun w=>by simp[underlying,ArT.under (P:=P) (t:=t)]
  have hb:((0:Int)≤(h:Int)∧(h:Int)≤(len:Int)):=by omega
  simp only[execOp,ho,hk.eval hx,Option.map_none,Option.map_some,hk.eval hy,Instr.sliceAt,Sem.run_bind,hu,Result.andThen_ok,Instr.sureAddr,Sem.run_pure,Instr.sliceBounds,Instr.sliceBound,asIntOf,if_pos hb,ArT.size (P:=P) (t:=t),Int.toNat_natCast]
  simp[add_mk]
end
theorem seg_take {w:World} {b o:Nat} {l:List Nat} (h:Seg w b o (woC l)) (n:Nat):Seg w b o (woC (l.take n)):=by
  have:=h.sub (k:=0) (m:=n) (vs:=woC (l.take n)) (by simp[cut,woC_take])
  simpa using this
theorem seg_drop {w:World} {b o:Nat} {l:List Nat} (h:Seg w b o (woC l)) (n:Nat):Seg w b (o+n) (woC (l.drop n)) :=
  h.sub (k:=n) (m:=l.length) (by rw[cut,woC_drop,List.take_of_length_le];rw[woC_length,List.length_drop];omega)
theorem dval_set:∀ {l:List Nat} {i v:Nat},i<l.length→dval (l.set i v)+65536 ^ i*l.getD i 0=dval l+65536 ^ i*v
  | [],i,v,h=>by simp at h
  | d::r,0,v,_=>by simp[dval];omega
  | d::r,i+1,v,h=>by
    have:=dval_set (l:=r) (i:=i) (v:=v) (by simpa using h)
    simp only[List.set_cons_succ,dval,List.getD_cons_succ]
    have e:∀ z,65536 ^ (i+1)*z=65536*(65536 ^ i*z):=fun z=>by rw[Nat.pow_succ,Nat.mul_comm (65536 ^ i),Nat.mul_assoc]
    rw[e,e]
    omega
theorem getD_set_ne {l:List Nat} {i j v:Nat} (h:i≠j):(l.set i v).getD j 0=l.getD j 0:=by simp[List.getD,List.getElem?_set_ne h]
structure MulAt (X Y d:List Nat) (i:Nat):Prop where
  len:d.length=32
  lt:∀ x∈d,x<65536
  high:∀ j,i+16≤j→d.getD j 0=0
  prod:dval d=dval (X.take i)*dval Y
structure MulIn (Y d0 d:List Nat) (x i k c:Nat):Prop where
  len:d.length=32
  lt:∀ x∈d,x<65536
  high:∀ j,i+16≤j→d.getD j 0=0
  prod:dval d+65536 ^ (i+k)*c=dval d0+65536 ^ i*(x*dval (Y.take k))
  one:c<65536
theorem MulAt.start {X Y d:List Nat} {i:Nat} (h:MulAt X Y d i) (x:Nat):MulIn Y d d x i 0 0:=⟨h.len,h.lt,h.high,by simp[dval],by decide⟩
theorem mul_bound {u x y c:Nat} (hu:u<65536) (hx:x<65536) (hy:y<65536) (hc:c<65536):u+x*y+c<4294967296:=by
  have:x*y≤65535*65535:=Nat.mul_le_mul (by omega) (by omega)
  omega
theorem MulIn.step {Y d0 d:List Nat} {x i k c:Nat} (h:MulIn Y d0 d x i k c) (hi:i<16) (hk:k<16) (hx:x<65536) (hY:Y.length=16) (hYl:∀ d∈Y,d<65536) :
    MulIn Y d0 (d.set (i+k) ((d.getD (i+k) 0+x*Y.getD k 0+c)%65536)) x i (k+1) ((d.getD (i+k) 0+x*Y.getD k 0+c) / 65536):=by
  have hu:=gD_lt h.lt (by decide) (i+k)
  have hy:=gD_lt hYl (by decide) k
  have hb:=mul_bound hu hx hy h.one
  have hl:=h.len
  refine⟨by simpa using h.len,mem_set_lt h.lt (Nat.mod_lt _ (by decide)),fun j hj=>by rw[getD_set_ne (by omega)];exact h.high j hj,?_,by omega⟩
  have hs:=dval_set (l:=d) (i:=i+k) (v:=(d.getD (i+k) 0+x*Y.getD k 0+c)%65536) (by omega)
  have hp:=h.prod
  rw[dval_take_succ (by omega),Nat.mul_add,Nat.mul_add,← Nat.add_assoc (dval d0),← hp]
  generalize dval (d.set (i+k) _)=D at *
  have e1:65536 ^ i*(x*(65536 ^ k*Y.getD k 0))=65536 ^ (i+k)*(x*Y.getD k 0):=by
    rw[Nat.pow_add,Nat.mul_assoc,Nat.mul_left_comm x]
  rw[e1,show i+(k+1)=(i+k)+1 by omega,Nat.pow_succ]
  generalize d.getD (i+k) 0=u at *
  generalize x*Y.getD k 0=v at *
  generalize 65536 ^ (i+k)=P at *
  have e:u+v+c=65536*((u+v+c) / 65536)+(u+v+c)%65536:=(Nat.div_add_mod _ _).symm
  generalize (u+v+c) / 65536=q at *
  generalize (u+v+c)%65536=r at *
  have e2:P*(u+v+c)=P*(65536*q+r):=by rw[e]
  rw[Nat.mul_add,Nat.mul_add,Nat.mul_add] at e2
  rw[← Nat.mul_assoc] at e2
  omega
theorem MulIn.done {X Y d0 d:List Nat} {i c:Nat} (h0:MulAt X Y d0 i) (h:MulIn Y d0 d (X.getD i 0) i 16 c) (hi:i<16) (hX:X.length=16) (hY:Y.length=16):MulAt X Y (d.set (i+16) c) (i+1):=by
  have hl:=h.len
  refine⟨by simpa using h.len,mem_set_lt h.lt h.one,fun j hj=>by rw[getD_set_ne (by omega)];exact h.high j (by omega),?_⟩
  have hs:=dval_set (l:=d) (i:=i+16) (v:=c) (by omega)
  rw[h.high _ (Nat.le_refl _),Nat.mul_zero,Nat.add_zero] at hs
  rw[hs,h.prod,dval_full hY,h0.prod,dval_take_succ (by omega),Nat.add_mul,Nat.mul_assoc]
set_option maxHeartbeats 2000000 in
theorem r_Mul (a b:Nat) (ha:a<B256) (hb:b<B256):Fn Tryz.prog 246 [numV a,numV b] Tr (Is (.tuple #[numV (a*b%B256),numV (a*b / B256)])):=by
  have hA:=r_Digits a ha
  have hB:=r_Digits b hb
  have hlA:=dgs_length 16 a
  have hlB:=dgs_length 16 b
  have hltA:=dgs_lt 16 a
  have hltB:=dgs_lt 16 b
  have hvA:dval (dgs 16 a)=a:=by rw[dval_dgs,B256_digits,Nat.mod_eq_of_lt ha]
  have hvB:dval (dgs 16 b)=b:=by rw[dval_dgs,B256_digits,Nat.mod_eq_of_lt hb]
  have hO:=fun l g o c hl hlt=>r_of l g o c hl hlt
  generalize dgs 16 a=X at *
  generalize dgs 16 b=Y at *
  have h0:MulAt X Y (List.replicate 32 0) 0:=⟨by simp,by simp,fun j _=>by unfold List.getD;rw[List.getElem?_replicate];split<;>rfl,by simp[dval,List.replicate]⟩
  refine Fn.enter Tryz.func246 rfl rfl rfl ?_
  intro w hw
  repeat (first|refine Ta ?_|(refine Tm ?_;intro _)|refine WO.acall (hc:=hA) (k:=?_)|refine WO.acall (hc:=hB) (k:=?_)|refine WO.stores (s_row (hl:=hlA) (hc:=by rfl)) ?_|refine WO.stores (s_row (hl:=hlB) (hc:=by rfl)) ?_|refine Tc ?_|exact Tz)
  rename_i g2 g3 g4 g5 g6 g7 g8
  refine WC.loopI (σ:=Nat × List Nat) (fun s=>s.1≤16∧MulAt X Y s.2 s.1) (fun s=>[(4,pt g4),(5,pt g5),(6,pt g6),(7,pt g7),(8,pt g8),(9,.int .i64 (s.1:Int))]) (fun s=>[⟨g4,24,numC 0⟩,⟨g5,24,numC 0⟩,⟨g6,259,woC X⟩,⟨g7,259,woC Y⟩,⟨g8,310,woC s.2⟩]) (fun s=>16 - s.1) (0,List.replicate 32 0) (fun s hs=>?_) ⟨Nat.zero_le _,h0⟩
  obtain⟨i,d0⟩:=s
  obtain⟨hi,hS⟩:=hs
  dsimp only at hi hS ⊢
  by_cases hlt:i<16
  · have hux:=gD_lt hltA (by decide) i
    repeat (first|refine Ta ?_|(refine Tm ?_;intro _)|refine Tc ?_|exact Tz)
    refine WC.dT rfl (by omega) ?_
    repeat (first|refine Ta ?_|(refine Tm ?_;intro _)|refine Tc ?_|exact Tz)
    refine WC.loopI (σ:=Nat × List Nat × Nat) (fun s=>s.1≤16∧MulIn Y d0 s.2.1 (X.getD i 0) i s.1 s.2.2) (fun s=>[(4,pt g4),(5,pt g5),(6,pt g6),(7,pt g7),(8,pt g8),(9,.int .i64 (i:Int)),(10,.int .u64 (s.2.2:Int)),(11,.int .i64 (s.1:Int))]) (fun s=>[⟨g4,24,numC 0⟩,⟨g5,24,numC 0⟩,⟨g6,259,woC X⟩,⟨g7,259,woC Y⟩,⟨g8,310,woC s.2.1⟩]) (fun s=>16 - s.1) (0,d0,0) (fun s hs=>?_) ⟨Nat.zero_le _,hS.start _⟩
    obtain⟨k,d,c⟩:=s
    obtain⟨hk,hI⟩:=hs
    dsimp only at hk hI ⊢
    have hld:=hI.len
    have hc1:=hI.one
    by_cases hlk:k<16
    · have hn:=hI.step hlt hlk hux hlB hltB
      have hu:=gD_lt hI.lt (by decide) (i+k)
      have huy:=gD_lt hltB (by decide) k
      have hb:=mul_bound hu hux huy hc1
      have hb2:=Nat.mul_le_mul (Nat.le_of_lt_succ hux) (Nat.le_of_lt_succ huy)
      have ad:=i64_in' (x:=(i:Int)+(k:Int)) (r:=((i+k:Nat):Int)) (by omega) (by omega) (by omega)
      have m1:=mul_u64 (X.getD i 0) (Y.getD k 0) (by omega)
      have a1:=add_u64 (d.getD (i+k) 0) (X.getD i 0*Y.getD k 0) (by omega)
      have a2:=add_u64 (d.getD (i+k) 0+X.getD i 0*Y.getD k 0) c (by omega)
      have r1:=rem_nat (d.getD (i+k) 0+X.getD i 0*Y.getD k 0+c) 65536
      have q1:=quo_u64 (d.getD (i+k) 0+X.getD i 0*Y.getD k 0+c) 65536 (by omega)
      repeat (first|refine Ta ?_|(refine Tm ?_;intro _)|refine Tc ?_|exact Tz)
      refine WC.dT rfl (by omega) ?_
      repeat (first|refine Ta ?_|(refine Tm ?_;intro _)|refine Tc ?_|exact Tz)
      refine WC.adraw 16 (k:=?_)
      repeat (first|refine Da ?_|refine DQ.does (fun s _=>l_word (hi:=by omega)) Dp.const ?_|refine DQ.does (fun s _=>does_add rfl rfl ad) Dp.const ?_|refine DQ.does (fun s _=>does_mul rfl rfl m1) Dp.const ?_|refine DQ.does (fun s _=>does_add rfl rfl a1) Dp.const ?_|refine DQ.does (fun s _=>does_add rfl rfl a2) Dp.const ?_|refine Dc ?_)
      refine DQ.anil (k:=?_)
      intro sx _
      repeat (first|refine Ta ?_|(refine Tm ?_;intro _)|refine WO.does (does_add rfl rfl ad) ?_|refine WO.does (does_rem rfl rfl (by decide) r1) ?_|refine WO.stores (s_word (hi:=by omega)) ?_|refine WO.does (does_quo rfl rfl (by decide) q1) ?_|refine Tc ?_|exact Tz)
      refine WX.metI (k+1,d.set (i+k) ((d.getD (i+k) 0+X.getD i 0*Y.getD k 0+c)%65536),(d.getD (i+k) 0+X.getD i 0*Y.getD k 0+c) / 65536) (hs:=⟨⟨by show k+1≤16;omega,hn⟩,by show 16 - (k+1)<16 - k;omega⟩)
    · have hk16:k=16:=by omega
      have hn:=MulIn.done hS (by rw[← hk16];exact hI) hlt hlA hlB
      have ad:=i64_in' (x:=(i:Int)+16) (r:=((i+16:Nat):Int)) (by omega) (by omega) (by omega)
      repeat (first|refine Ta ?_|(refine Tm ?_;intro _)|refine Tc ?_|exact Tz)
      refine WC.dF rfl (by omega) ?_
      repeat (first|refine Ta ?_|(refine Tm ?_;intro _)|refine WO.does (does_add rfl rfl ad) ?_|refine WO.stores (s_word (hi:=by omega)) ?_|refine Tc ?_|exact Tz)
      refine WX.metI (i+1,d.set (i+16) c) (hs:=⟨⟨by show i+1≤16;omega,hn⟩,by show 16 - (i+1)<16 - i;omega⟩)
  · have hi16:i=16:=by omega
    have hp:=hS.prod
    rw[hi16,dval_full hlA,hvA,hvB] at hp
    have hld:=hS.len
    have e0:dval d0=dval (d0.take 16)+B256*dval (d0.drop 16):=by
      rw[← B256_digits]
      have:=dval_append (d0.take 16) (d0.drop 16)
      rw[List.take_append_drop,List.length_take,hld] at this
      exact this
    have l1:(d0.take 16).length=16:=by rw[List.length_take,hld];rfl
    have l2:(d0.drop 16).length=16:=by rw[List.length_drop,hld]
    have t1:∀ x∈d0.take 16,x<65536:=fun x hx=>hS.lt x (List.mem_of_mem_take hx)
    have t2:∀ x∈d0.drop 16,x<65536:=fun x hx=>hS.lt x (List.mem_of_mem_drop hx)
    have hxl:=dval_lt t1
    rw[l1,B256_digits] at hxl
    have e1:a*b%B256=dval (d0.take 16):=by rw[← hp,e0,Nat.add_mul_mod_self_left,Nat.mod_eq_of_lt hxl]
    have e2:a*b / B256=dval (d0.drop 16):=by rw[← hp,e0,Nat.add_mul_div_left _ _ B256_zero,Nat.div_eq_of_lt hxl,Nat.zero_add]
    rw[e1,e2]
    have o1:=fun g c=>hO (d0.take 16) g 0 c l1 t1
    have o2:=fun g=>hO (d0.drop 16) g 16 16 l2 t2
    generalize dval (d0.take 16)=R1 at *
    generalize dval (d0.drop 16)=R2 at *
    repeat (first|refine Ta ?_|(refine Tm ?_;intro _)|refine Tc ?_|exact Tz)
    refine WC.dF rfl (by omega) ?_
    repeat (first|refine Ta ?_|(refine Tm ?_;intro _)|refine Tc ?_|exact Tz)
    refine WC.adraw 4 (k:=?_)
    refine DQ.does (v:=fun _=>.slice (some ⟨g8,0,none⟩) 16 32) (fun s _=>does_sliceATo (len:=32) (h:=16) rfl rfl (by decide)) Dp.const ?_
    refine DQ.acallR (hc:=o1 _ _) (hR:=fun w' hm=>seg_take (Hs.seg (by repeat (first|exact Hs.here|apply Hs.there)) hm) 16) (k:=?_)
    refine DQ.does (v:=fun _=>.slice (some ⟨g8,16,none⟩) 16 16) (fun s _=>does_sliceAFrom (len:=32) (l:=16) (o':=16) rfl rfl (by decide) (by rfl)) Dp.const ?_
    refine DQ.acallR (hc:=o2 _) (hR:=fun w' hm=>by have:=seg_drop (Hs.seg (g:=g8) (t:=310) (cs:=woC d0) (by repeat (first|exact Hs.here|apply Hs.there)) hm) 16;rwa [Nat.zero_add] at this) (k:=?_)
    repeat (first|refine Da ?_|refine Dc ?_)
    refine DQ.anil (k:=?_)
    intro sx _
    repeat (first|refine Ta ?_|(refine Tm ?_;intro _)|refine Tc ?_|exact Tz)
end Sx
end Go.Proofs.YtiiacjladnljhaaGreatDoor
namespace Go.Proofs.YtiiacjladnljhaaGreatDoor
open Go Go.RowKit
namespace Sx
attribute [local irreducible] wd DQ DQS WO WC WX
theorem c_Div64 (hi lo y:Nat) (h1:lo<18446744073709551616) (h2:y<18446744073709551616) (h3:hi<y):Fn Tryz.prog 220 [.int .u64 (hi:Int),.int .u64 (lo:Int),.int .u64 (y:Int)] Tr
    (Is (.tuple #[.int .u64 (((hi*18446744073709551616+lo) / y:Nat):Int),.int .u64 (((hi*18446744073709551616+lo)%y:Nat):Int)])):=.of fun w=>bits_Div64 hi lo y h1 h2 h3 w
theorem c_Mul64 (x y:Nat) (hx:x<18446744073709551616) (hy:y<18446744073709551616):Fn Tryz.prog 219 [.int .u64 (x:Int),.int .u64 (y:Int)] Tr
    (Is (.tuple #[.int .u64 ((x*y / 18446744073709551616:Nat):Int),.int .u64 ((x*y%18446744073709551616:Nat):Int)])):=.of fun w=>(Tryz.bits_Mul64 x y hx hy w).mono (fun e w' ⟨h1,h2⟩=>by subst h2;exact⟨h1,Below.refl _ _⟩)
theorem word_parts {a:Nat} (ha:a<B256):a<18446744073709551616↔wd 1 a=0∧wd 2 a=0∧wd 3 a=0:=by
  unfold B256 at ha;simp only[wd];omega
theorem r_Word (a:Nat) (ha:a<B256):Fn Tryz.prog 210 [numV a] Tr (Is (.bool (decide (a<18446744073709551616)))):=by
  have hp:=word_parts ha
  by_cases h1:wd 1 a=0
  · by_cases h2:wd 2 a=0
    · by_cases h3:wd 3 a=0
      · rw[show decide (a<18446744073709551616)=true from decide_eq_true (hp.2 ⟨h1,h2,h3⟩)]
        have d1:decide (((wd 1 a:Nat):Int)=0)=true:=decide_eq_true (by omega)
        have d2:decide (((wd 2 a:Nat):Int)=0)=true:=decide_eq_true (by omega)
        have d3:decide (((wd 3 a:Nat):Int)=0)=true:=decide_eq_true (by omega)
        refine Fn.enter Tryz.func210 rfl rfl rfl ?_
        intro w hw
        repeat (first|refine Ta ?_|(refine Tm ?_;intro _)|refine Tc ?_|exact Tz)
        rw[d1]
        repeat (first|refine Ta ?_|(refine Tm ?_;intro _)|refine Tc ?_|exact Tz)
        rw[d2]
        repeat (first|refine Ta ?_|(refine Tm ?_;intro _)|refine Tc ?_|exact Tz)
        rw[d3]
        repeat (first|refine Ta ?_|(refine Tm ?_;intro _)|refine Tc ?_|exact Tz)
      · rw[show decide (a<18446744073709551616)=false from decide_eq_false (fun h=>h3 (hp.1 h).2.2)]
        have d1:decide (((wd 1 a:Nat):Int)=0)=true:=decide_eq_true (by omega)
        have d2:decide (((wd 2 a:Nat):Int)=0)=true:=decide_eq_true (by omega)
        have d3:decide (((wd 3 a:Nat):Int)=0)=false:=decide_eq_false (by omega)
        refine Fn.enter Tryz.func210 rfl rfl rfl ?_
        intro w hw
        repeat (first|refine Ta ?_|(refine Tm ?_;intro _)|refine Tc ?_|exact Tz)
        rw[d1]
        repeat (first|refine Ta ?_|(refine Tm ?_;intro _)|refine Tc ?_|exact Tz)
        rw[d2]
        repeat (first|refine Ta ?_|(refine Tm ?_;intro _)|refine Tc ?_|exact Tz)
        rw[d3]
        repeat (first|refine Ta ?_|(refine Tm ?_;intro _)|refine Tc ?_|exact Tz)
    · rw[show decide (a<18446744073709551616)=false from decide_eq_false (fun h=>h2 (hp.1 h).2.1)]
      have d1:decide (((wd 1 a:Nat):Int)=0)=true:=decide_eq_true (by omega)
      have d2:decide (((wd 2 a:Nat):Int)=0)=false:=decide_eq_false (by omega)
      refine Fn.enter Tryz.func210 rfl rfl rfl ?_
      intro w hw
      repeat (first|refine Ta ?_|(refine Tm ?_;intro _)|refine Tc ?_|exact Tz)
      rw[d1]
      repeat (first|refine Ta ?_|(refine Tm ?_;intro _)|refine Tc ?_|exact Tz)
      rw[d2]
      repeat (first|refine Ta ?_|(refine Tm ?_;intro _)|refine Tc ?_|exact Tz)
  · rw[show decide (a<18446744073709551616)=false from decide_eq_false (fun h=>h1 (hp.1 h).1)]
    have d1:decide (((wd 1 a:Nat):Int)=0)=false:=decide_eq_false (by omega)
    refine Fn.enter Tryz.func210 rfl rfl rfl ?_
    intro w hw
    repeat (first|refine Ta ?_|(refine Tm ?_;intro _)|refine Tc ?_|exact Tz)
    rw[d1]
    repeat (first|refine Ta ?_|(refine Tm ?_;intro _)|refine Tc ?_|exact Tz)
theorem even_words {X b:Nat} (hX:X<B256) (h2:X%2=0) (hb:b≤1):wd 0 X+b<18446744073709551616∧wd 0 (X+b)=wd 0 X+b∧wd 1 (X+b)=wd 1 X∧wd 2 (X+b)=wd 2 X∧wd 3 (X+b)=wd 3 X∧X+b<B256:=by
  unfold B256 at *;simp only[wd];omega
theorem twice_even (r:Nat):(r+r)%B256%2=0:=by unfold B256;omega
theorem twice_cases {r b m:Nat} (hr:r<m) (hb:b≤1) (hm:m<B256) :
    ((r+r) / B256=0∧cmpN ((r+r)%B256+b) m = -1∧(2*r+b)%m=(r+r)%B256+b) ∨
    ((r+r) / B256=1∧(2*r+b)%m=((r+r)%B256+b+B256 - m)%B256) ∨
    ((r+r) / B256=0∧(cmpN ((r+r)%B256+b) m=0∨cmpN ((r+r)%B256+b) m=1)∧(2*r+b)%m=((r+r)%B256+b+B256 - m)%B256):=by
  by_cases hc:r+r<B256
  · have e:(r+r)%B256=r+r:=Nat.mod_eq_of_lt hc
    have e0:(r+r) / B256=0:=Nat.div_eq_of_lt hc
    rw[e,e0]
    by_cases h:r+r+b<m
    · exact .inl ⟨rfl,cmpN_lt h,by rw[show 2*r+b=r+r+b by omega];exact Nat.mod_eq_of_lt h⟩
    · refine .inr (.inr ⟨rfl,?_,?_⟩)
      · rcases Nat.lt_or_ge m (r+r+b) with h1|h1
        · exact .inr (cmpN_gt h1)
        · exact .inl (cmpN_eq (by omega))
      · rw[Nat.mod_eq_sub_mod (by omega),Nat.mod_eq_of_lt (by omega),show r+r+b+B256 - m=(r+r+b - m)+B256 by omega,Nat.add_mod_right,Nat.mod_eq_of_lt (by omega)];omega
  · have e:(r+r)%B256=r+r - B256:=by rw[Nat.mod_eq_sub_mod (by omega),Nat.mod_eq_of_lt (by omega)]
    refine .inr (.inl ⟨?_,?_⟩)
    · rw[Nat.div_eq_iff B256_zero];omega
    · rw[e,Nat.mod_eq_sub_mod (by omega),Nat.mod_eq_of_lt (by omega),show r+r - B256+b+B256 - m=2*r+b - m by omega,Nat.mod_eq_of_lt (by omega)]
set_option maxHeartbeats 1000000 in
theorem r_twice (r b m:Nat) (hr:r<m) (hb:b≤1) (hm:m<B256):Fn Tryz.prog 266 [numV r,.int .u64 (b:Int),numV m] Tr (Is (numV ((2*r+b)%m))):=by
  have hc:=twice_cases hr hb hm
  have hA:=r_Add r r (by omega) (by omega)
  have hXl:(r+r)%B256<B256:=Nat.mod_lt _ B256_zero
  obtain⟨w0,e0,e1,e2,e3,hY⟩:=even_words hXl (twice_even r) hb
  have hC:=r_Cmp ((r+r)%B256+b) m hY hm
  have hS:=r_Sub ((r+r)%B256+b) m hY hm
  have ha:=add_u64 (wd 0 ((r+r)%B256)) b w0
  rw[← e0] at ha
  generalize (2*r+b)%m=R at *
  generalize (r+r) / B256=c at *
  generalize ((r+r)%B256+b+B256 - m)%B256=y at *
  generalize bw ((r+r)%B256+b) m 0=l at *
  generalize (r+r)%B256+b=Y at *
  generalize (r+r)%B256=X at *
  simp only[numV] at hA
  rw[← e1,← e2,← e3] at hA
  rcases hc with ⟨rfl,h2,rfl⟩|⟨rfl,rfl⟩|⟨rfl,h2|h2,rfl⟩
  · rw[h2] at hC
    refine Fn.enter Tryz.func266 rfl rfl rfl ?_
    intro w hw
    repeat (first|refine Ta ?_|(refine Tm ?_;intro _)|refine WO.acall (hc:=hA) (k:=?_)|refine WO.acall (hc:=hC) (k:=?_)|refine WO.acall (hc:=hS) (k:=?_)|refine WO.does (does_add rfl rfl ha) ?_|refine Tc ?_|exact Tz)
  · refine Fn.enter Tryz.func266 rfl rfl rfl ?_
    intro w hw
    repeat (first|refine Ta ?_|(refine Tm ?_;intro _)|refine WO.acall (hc:=hA) (k:=?_)|refine WO.acall (hc:=hC) (k:=?_)|refine WO.acall (hc:=hS) (k:=?_)|refine WO.does (does_add rfl rfl ha) ?_|refine Tc ?_|exact Tz)
  · rw[h2] at hC
    refine Fn.enter Tryz.func266 rfl rfl rfl ?_
    intro w hw
    repeat (first|refine Ta ?_|(refine Tm ?_;intro _)|refine WO.acall (hc:=hA) (k:=?_)|refine WO.acall (hc:=hC) (k:=?_)|refine WO.acall (hc:=hS) (k:=?_)|refine WO.does (does_add rfl rfl ha) ?_|refine Tc ?_|exact Tz)
  · rw[h2] at hC
    refine Fn.enter Tryz.func266 rfl rfl rfl ?_
    intro w hw
    repeat (first|refine Ta ?_|(refine Tm ?_;intro _)|refine WO.acall (hc:=hA) (k:=?_)|refine WO.acall (hc:=hC) (k:=?_)|refine WO.acall (hc:=hS) (k:=?_)|refine WO.does (does_add rfl rfl ha) ?_|refine Tc ?_|exact Tz)
end Sx
end Go.Proofs.YtiiacjladnljhaaGreatDoor
namespace Go.Proofs.YtiiacjladnljhaaGreatDoor
open Go Go.RowKit
namespace Sx
attribute [local irreducible] DQ DQS WO WC WX
theorem bit_step (a i:Nat):a / 2 ^ i=2*(a / 2 ^ (i+1))+bitN a i:=by
  unfold bitN
  rw[Nat.pow_succ,← Nat.div_div_eq_div_mul];omega
theorem mod_twice (A b m:Nat):(2*(A%m)+b)%m=(2*A+b)%m:=by
  rw[Nat.add_mod,Nat.mul_mod_mod,← Nat.add_mod]
theorem B256_pow:B256=2 ^ 256:=by decide
theorem bit_low {hi lo i:Nat} (h:i<256):bitN (hi*B256+lo) i=bitN lo i:=by
  unfold bitN
  have e:hi*B256+lo=2 ^ i*(2*(hi*2 ^ (255 - i)))+lo:=by
    rw[B256_pow]
    congr 1
    have:(2:Nat) ^ 256=2 ^ i*(2*2 ^ (255 - i)):=by
      rw[show 2*2 ^ (255 - i)=2 ^ (256 - i) by rw[show 256 - i=(255 - i)+1 by omega,Nat.pow_succ,Nat.mul_comm],← Nat.pow_add]
      congr 1;omega
    rw[this,Nat.mul_left_comm hi,Nat.mul_left_comm hi]
  rw[e,Nat.mul_add_div (Nat.two_pow_pos i),Nat.mul_add_mod]
theorem bitN_le (a i:Nat):bitN a i≤1:=by unfold bitN;omega
theorem word_of {hi lo i:Nat} (hlo:lo<B256) (hhi:hi<B256) (h:i<8):(hi*B256+lo) / 18446744073709551616 ^ i%18446744073709551616=if 4≤i then wd (i - 4) hi else wd i lo:=by
  unfold B256 at *
  match i,h with
  | 0,_|1,_|2,_|3,_|4,_|5,_|6,_|7,_=>simp only[wd,Nat.reducePow,Nat.reduceLeDiff,if_true,if_false,Nat.reduceSub];omega
theorem word_step (N i:Nat):N / 18446744073709551616 ^ i=N / 18446744073709551616 ^ (i+1)*18446744073709551616+N / 18446744073709551616 ^ i%18446744073709551616:=by
  rw[Nat.pow_succ,← Nat.div_div_eq_div_mul];omega
theorem mod_words (A w m:Nat):(A%m*18446744073709551616+w)%m=(A*18446744073709551616+w)%m:=by
  rw[Nat.add_mod,Nat.mod_mul_mod,← Nat.add_mod]
set_option maxHeartbeats 2000000 in
theorem r_WideW (lo hi m:Nat) (hlo:lo<B256) (hhi:hi<B256) (hm:m<18446744073709551616) (h0:0<m):Fn Tryz.prog 247 [numV lo,numV hi,numV m] Tr (Is (.tuple #[numV ((hi*B256+lo)%m),.int .i64 0])):=by
  have hmB:m<B256:=B256_of hm
  have hW:=r_Word m hmB
  rw[decide_eq_true hm] at hW
  have hne:decide (m=0)=false:=decide_eq_false (by omega)
  have hm0:wd 0 m=m:=Nat.mod_eq_of_lt hm
  have hwo:=fun i (h:i<8)=>word_of hlo hhi h
  have hws:=fun i=>word_step (hi*B256+lo) i
  have hend:(hi*B256+lo) / 18446744073709551616 ^ 8=0:=Nat.div_eq_of_lt (by unfold B256 at *;omega)
  generalize hi*B256+lo=N at *
  have hD:∀ r w:Nat,w<18446744073709551616→r<m→Fn Tryz.prog 220 [.int .u64 (r:Int),.int .u64 (w:Int),.int .u64 ((wd 0 m:Nat):Int)] Tr
      (Is (.tuple #[.int .u64 (((r*18446744073709551616+w) / m:Nat):Int),.int .u64 (((r*18446744073709551616+w)%m:Nat):Int)])):=fun r w h1 h3=>by rw[hm0];exact c_Div64 r w m h1 hm h3
  have hO:=r_Of (N%m) (Nat.lt_trans (Nat.mod_lt _ h0) hm)
  refine Fn.enter Tryz.func247 rfl rfl rfl ?_
  intro w hw
  repeat (first|refine Ta ?_|(refine Tm ?_;intro _)|refine WO.does a_eqNum ?_|refine Tc ?_|exact Tz)
  rw[hne]
  repeat (first|refine Ta ?_|(refine Tm ?_;intro _)|refine WO.acall (hc:=hW) (k:=?_)|refine Tc ?_|exact Tz)
  rename_i g3 g4 g5 g6
  refine WC.loopI (σ:=Nat) (fun j=>j≤8) (fun j=>[(3,pt g3),(4,pt g4),(5,pt g5),(6,pt g6),(7,.int .i64 0),(8,.int .u64 ((N / 18446744073709551616 ^ j%m:Nat):Int)),(9,.int .i64 ((j:Int) - 1))]) (fun j=>[⟨g3,24,numC lo⟩,⟨g4,24,numC hi⟩,⟨g5,24,numC m⟩,⟨g6,24,numC 0⟩]) (fun j=>j) 8 (fun j hj=>?_) (Nat.le_refl _) (by
      rw[hend,Nat.zero_mod]
      repeat (first|exact Kle.nil|refine Kle.cons rfl rfl ?_))
  try dsimp only at hj ⊢
  cases j with
  | zero =>
    rw[Nat.pow_zero,Nat.div_one]
    generalize N%m=R at *
    repeat (first|refine Ta ?_|(refine Tm ?_;intro _)|refine WO.acall (hc:=hO) (k:=?_)|refine Tc ?_|exact Tz)
  | succ i =>
    have hr:=rem_nat i 4
    have hw:=hwo i (by omega)
    have hst:=hws i
    have hDi:=hD (N / 18446744073709551616 ^ (i+1)%m) (N / 18446744073709551616 ^ i%18446744073709551616) (Nat.mod_lt _ (by decide)) (Nat.mod_lt _ h0)
    rw[mod_words,← hst,hw] at hDi
    rw[show (((i+1:Nat):Int) - 1)=(i:Int) by omega]
    clear hw hst hws hwo hD hO hend
    by_cases h4:4≤i
    · rw[if_pos h4] at hDi
      have d4:decide ((4:Int)≤(i:Int))=true:=decide_eq_true (by omega)
      have hs4:IntKind.i64.wrap ((i:Int) - 4)=((i - 4:Nat):Int):=i64_in' (by omega) (by omega) (by omega)
      generalize hR' : N / 18446744073709551616 ^ i%m=R' at *
      generalize N / 18446744073709551616 ^ (i+1)%m=R at *
      generalize (R*18446744073709551616+wd (i - 4) hi) / m=q at *
      repeat (first|refine Ta ?_|(refine Tm ?_;intro _)|refine WO.does (does_rem rfl rfl (by decide) hr) ?_|refine WO.does (l_num (hj:=by omega)) ?_|refine Tc ?_|exact Tz)
      rw[d4]
      repeat (first|refine Ta ?_|(refine Tm ?_;intro _)|refine WO.does (does_sub rfl rfl hs4) ?_|refine WO.does (l_num (hj:=by omega)) ?_|refine WO.acall (hc:=hDi) (k:=?_)|refine Tc ?_|exact Tz)
      refine WX.metI i (hs:=⟨by omega,by show i<i+1;omega⟩) (hk:=(by repeat (first|exact Kle.nil|refine Kle.cons rfl (by first|rfl|(rw[hR'])) ?_)))
    · rw[if_neg h4] at hDi
      have d4:decide ((4:Int)≤(i:Int))=false:=decide_eq_false (by omega)
      have him:i%4=i:=Nat.mod_eq_of_lt (by omega)
      rw[him] at hr
      generalize hR' : N / 18446744073709551616 ^ i%m=R' at *
      generalize N / 18446744073709551616 ^ (i+1)%m=R at *
      generalize (R*18446744073709551616+wd i lo) / m=q at *
      repeat (first|refine Ta ?_|(refine Tm ?_;intro _)|refine WO.does (does_rem rfl rfl (by decide) hr) ?_|refine WO.does (l_num (hj:=by omega)) ?_|refine Tc ?_|exact Tz)
      rw[d4]
      repeat (first|refine Ta ?_|(refine Tm ?_;intro _)|refine WO.acall (hc:=hDi) (k:=?_)|refine Tc ?_|exact Tz)
      refine WX.metI i (hs:=⟨by omega,by show i<i+1;omega⟩) (hk:=(by repeat (first|exact Kle.nil|refine Kle.cons rfl (by first|rfl|(rw[hR'])) ?_)))
end Sx
end Go.Proofs.YtiiacjladnljhaaGreatDoor
namespace Go.Proofs.YtiiacjladnljhaaGreatDoor
open Go Go.RowKit
namespace Sx
attribute [local irreducible] DQ DQS WO WC WX
set_option maxHeartbeats 2000000 in
theorem r_WideL (lo hi m:Nat) (hlo:lo<B256) (hhi:hi<B256) (hm:¬ m<18446744073709551616) (hmB:m<B256):Fn Tryz.prog 247 [numV lo,numV hi,numV m] Tr (Is (.tuple #[numV ((hi*B256+lo)%m),.int .i64 0])):=by
  have hW:=r_Word m hmB
  rw[decide_eq_false hm] at hW
  have hne:decide (m=0)=false:=decide_eq_false (by omega)
  have hm0:0<m:=by omega
  have hB1:=fun i (hi2:i<256)=>r_Bit hi i hhi hi2
  have hB2:=fun i (hi2:i<256)=>r_Bit lo i hlo hi2
  have hT:=fun (r b:Nat) (hr:r<m) (hb:b≤1)=>r_twice r b m hr hb hmB
  have hs1:=fun i=>bit_step hi i
  have hs2:=fun i=>bit_step (hi*B256+lo) i
  have hlow:=fun i (h:i<256)=>bit_low (hi:=hi) (lo:=lo) h
  have htop:hi / 2 ^ 256%m=0:=by rw[Nat.div_eq_of_lt (by rw[← B256_pow];exact hhi),Nat.zero_mod]
  have hmid:(hi*B256+lo) / 2 ^ 256=hi:=by rw[← B256_pow,Nat.mul_comm,Nat.mul_add_div B256_zero,Nat.div_eq_of_lt hlo,Nat.add_zero]
  generalize hi*B256+lo=N at *
  refine Fn.enter Tryz.func247 rfl rfl rfl ?_
  intro w hw
  repeat (first|refine Ta ?_|(refine Tm ?_;intro _)|refine WO.does a_eqNum ?_|refine Tc ?_|exact Tz)
  rw[hne]
  repeat (first|refine Ta ?_|(refine Tm ?_;intro _)|refine WO.acall (hc:=hW) (k:=?_)|refine Tc ?_|exact Tz)
  rename_i g3 g4 g5 g6 g11
  refine WC.loopI (σ:=Nat) (fun j=>j≤256) (fun j=>[(3,pt g3),(4,pt g4),(5,pt g5),(6,pt g6),(7,.int .i64 0),(11,pt g11),(12,.int .i64 ((j:Int) - 1))]) (fun j=>[⟨g3,24,numC lo⟩,⟨g4,24,numC hi⟩,⟨g5,24,numC m⟩,⟨g6,24,numC 0⟩,⟨g11,24,numC (hi / 2 ^ j%m)⟩]) (fun j=>j) 256 (fun j hj=>?_) (Nat.le_refl _) (by repeat (first|exact Kle.nil|refine Kle.cons rfl rfl ?_)) (by
      rw[htop]
      repeat (first|exact Lle.nil|refine Lle.cons (by repeat (first|exact Pk.here|apply Pk.there)) rfl ?_))
  try dsimp only at hj ⊢
  cases j with
  | succ i =>
    have h1:=hB1 i (by omega)
    have h2:=hT (hi / 2 ^ (i+1)%m) (bitN hi i) (Nat.mod_lt _ hm0) (bitN_le _ _)
    rw[mod_twice,← hs1 i] at h2
    rw[show (((i+1:Nat):Int) - 1)=(i:Int) by omega]
    clear hs1 hs2 hlow htop hmid hB1 hB2 hT
    generalize hR:hi / 2 ^ (i+1)%m=R at *
    generalize hR' : hi / 2 ^ i%m=R' at *
    repeat (first|refine Ta ?_|(refine Tm ?_;intro _)|refine Tc ?_|exact Tz)
    refine WC.adraw 6 (k:=?_)
    repeat (first|refine Da ?_|refine DQ.acall (hc:=h1) (k:=?_)|refine DQ.acall (hc:=h2) (k:=?_)|refine Dc ?_)
    refine DQ.anil (k:=?_)
    intro sx _
    repeat (first|refine Ta ?_|(refine Tm ?_;intro _)|refine Tc ?_|exact Tz)
    refine WX.metI i (hl:=(by repeat (first|exact Lle.nil|refine Lle.cons (by repeat (first|exact Pk.here|apply Pk.there)) (by first|rfl|(rw[hR'])) ?_))) (hs:=⟨by omega,by show i<i+1;omega⟩)
  | zero =>
    rw[Nat.pow_zero,Nat.div_one]
    repeat (first|refine Ta ?_|(refine Tm ?_;intro _)|refine Tc ?_|exact Tz)
    refine WC.loopI (σ:=Nat) (fun j=>j≤256) (fun j=>[(3,pt g3),(4,pt g4),(5,pt g5),(6,pt g6),(7,.int .i64 0),(11,pt g11),(13,.int .i64 ((j:Int) - 1))]) (fun j=>[⟨g3,24,numC lo⟩,⟨g4,24,numC hi⟩,⟨g5,24,numC m⟩,⟨g6,24,numC 0⟩,⟨g11,24,numC (N / 2 ^ j%m)⟩]) (fun j=>j) 256 (fun j hj=>?_) (Nat.le_refl _) (by repeat (first|exact Kle.nil|refine Kle.cons rfl rfl ?_)) (by
      rw[hmid]
      repeat (first|exact Lle.nil|refine Lle.cons (by repeat (first|exact Pk.here|apply Pk.there)) rfl ?_))
    try dsimp only at hj ⊢
    cases j with
    | succ i =>
      have h1:=hB2 i (by omega)
      have h2:=hT (N / 2 ^ (i+1)%m) (bitN N i) (Nat.mod_lt _ hm0) (bitN_le _ _)
      rw[mod_twice,← hs2 i,hlow i (by omega)] at h2
      rw[show (((i+1:Nat):Int) - 1)=(i:Int) by omega]
      clear hs1 hs2 hlow htop hmid hB1 hB2 hT
      generalize hR:N / 2 ^ (i+1)%m=R at *
      generalize hR' : N / 2 ^ i%m=R' at *
      repeat (first|refine Ta ?_|(refine Tm ?_;intro _)|refine Tc ?_|exact Tz)
      refine WC.adraw 6 (k:=?_)
      repeat (first|refine Da ?_|refine DQ.acall (hc:=h1) (k:=?_)|refine DQ.acall (hc:=h2) (k:=?_)|refine Dc ?_)
      refine DQ.anil (k:=?_)
      intro sx _
      repeat (first|refine Ta ?_|(refine Tm ?_;intro _)|refine Tc ?_|exact Tz)
      refine WX.metI i (hl:=(by repeat (first|exact Lle.nil|refine Lle.cons (by repeat (first|exact Pk.here|apply Pk.there)) (by first|rfl|(rw[hR'])) ?_))) (hs:=⟨by omega,by show i<i+1;omega⟩)
    | zero =>
      rw[Nat.pow_zero,Nat.div_one]
      generalize N%m=R at *
      repeat (first|refine Ta ?_|(refine Tm ?_;intro _)|refine Tc ?_|exact Tz)
theorem r_Wide (lo hi m:Nat) (hlo:lo<B256) (hhi:hi<B256) (hmB:m<B256) (h0:0<m):Fn Tryz.prog 247 [numV lo,numV hi,numV m] Tr (Is (.tuple #[numV ((hi*B256+lo)%m),.int .i64 0])):=by
  by_cases hm:m<18446744073709551616
  · exact r_WideW lo hi m hlo hhi hm h0
  · exact r_WideL lo hi m hlo hhi hm hmB
end Sx
end Go.Proofs.YtiiacjladnljhaaGreatDoor
