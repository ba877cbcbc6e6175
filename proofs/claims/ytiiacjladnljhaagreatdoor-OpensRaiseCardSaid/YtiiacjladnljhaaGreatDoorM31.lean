/- Part 31 of the proof: OdA, WtN, RsN, SoN, SyD -/
import Derived.Test.YtiiacjladnljhaaGreatDoorM26
import Derived.Test.YtiiacjladnljhaaGreatDoorM27
import Derived.Test.YtiiacjladnljhaaGreatDoorM19
import Derived.Test.YtiiacjladnljhaaGreatDoorM28
set_option linter.unusedSimpArgs false
set_option linter.unusedVariables false
namespace Go.Proofs.YtiiacjladnljhaaGreatDoor
open Go Go.RowKit Go.BigFrame
namespace Sx
attribute [local irreducible] wd DQ DQS WO WC WX
abbrev opC (ep d n z c s:Nat):List Value:=[.int .u64 (ep:Int),.int .u8 (d:Int),.int .u8 (n:Int),.int .u64 ((wd 0 z:Nat):Int),.int .u64 ((wd 1 z:Nat):Int),.int .u64 ((wd 2 z:Nat):Int),.int .u64 ((wd 3 z:Nat):Int),.int .u64 ((wd 0 c:Nat):Int),.int .u64 ((wd 1 c:Nat):Int),.int .u64 ((wd 2 c:Nat):Int),.int .u64 ((wd 3 c:Nat):Int),.int .u64 ((wd 0 s:Nat):Int),.int .u64 ((wd 1 s:Nat):Int),.int .u64 ((wd 2 s:Nat):Int),.int .u64 ((wd 3 s:Nat):Int)]
structure Od where
  e:Nat
  d:Nat
  n:Nat
  z:Nat
  c:Nat
  s:Nat
structure OdOk (o:Od):Prop where
  e:o.e<18446744073709551616
  d:o.d<256
  n:o.n<256
  z:o.z<B256
  c:o.c<B256
  s:o.s<B256
abbrev odC (o:Od):List Value:=opC o.e o.d o.n o.z o.c o.s
theorem odC_len (o:Od):(odC o).length=15:=rfl
theorem wd_wf (i a:Nat):(Lit.int .u64 ((wd i a:Nat):Int)).wf=true:=by
  have:=wd_lt i a
  simp[Lit.wf,IntKind.min,IntKind.max,IntKind.signed,IntKind.bits];omega
theorem key_opened (o:Od) (ho:OdOk o):∃ l,Tryz.prog.keyLits 4 76 (odC o)=some l:=by
  have c1:Tryz.prog.cellsOf 76=15:=by kernel_rfl
  have c2:Tryz.prog.cellsOf 24=4:=by kernel_rfl
  have c3:Tryz.prog.cellsOf 74=8:=by kernel_rfl
  have c4:Tryz.prog.cellsOf 22=1:=by kernel_rfl
  have c5:Tryz.prog.cellsOf 5=1:=by kernel_rfl
  have w1:(Lit.int .u64 (o.e:Int)).wf=true:=by have:=ho.e;simp[Lit.wf,IntKind.min,IntKind.max,IntKind.signed,IntKind.bits];omega
  have w2:(Lit.int .u8 (o.d:Int)).wf=true:=by have:=ho.d;simp[Lit.wf,IntKind.min,IntKind.max,IntKind.signed,IntKind.bits];omega
  have w3:(Lit.int .u8 (o.n:Int)).wf=true:=by have:=ho.n;simp[Lit.wf,IntKind.min,IntKind.max,IntKind.signed,IntKind.bits];omega
  have k1:Tryz.prog.keyLits 3 22 [.int .u64 (o.e:Int)]=some [.int .u64 (o.e:Int)]:=by simp[Program.keyLits,Tryz.underlying22,w1]
  have k2:Tryz.prog.keyLits 3 5 [.int .u8 (o.d:Int)]=some [.int .u8 (o.d:Int)]:=by simp[Program.keyLits,Tryz.underlying5,w2]
  have k3:Tryz.prog.keyLits 3 5 [.int .u8 (o.n:Int)]=some [.int .u8 (o.n:Int)]:=by simp[Program.keyLits,Tryz.underlying5,w3]
  have k4:∃ l,Tryz.prog.keyLits 3 24 (numC o.z)=some l:=by
    have k:=fun i=>wd_wf i o.z
    have r:List.range 4=[0,1,2,3]:=rfl
    unfold Program.keyLits
    simp[Tryz.underlying24,c2,c4,r,Program.keyLits,Tryz.underlying22,k]
  obtain⟨l4,k4⟩:=k4
  obtain⟨l5,k5⟩:=key_proof o.c o.s
  unfold Program.keyLits
  simp[Tryz.underlying76,c1,c2,c3,c4,c5,numC] at k1 k2 k3 k4 k5 ⊢
  simp[k1,k2,k3,k4,k5]
theorem same_opened (o:Od) (ho:OdOk o) (w:World):(Op.equalIn 10000 76 (.agg (odC o).toArray) (.agg (odC o).toArray)).run Tryz.prog w=.ok true w:=run_same (d:=9996) (m:=4) (D:=4) (by kernel_rfl) rfl (by kernel_rfl) (key_opened o ho) w
theorem guard_opened (op:BinOp) (x y:Operand) (a b:Array Value) (w:World):(eqGuard op 76 x y (.agg a) (.agg b)).run Tryz.prog w=.ok () w:=by cases op<;>kernel_rfl
section
variable {w0:World} {gs:List Nat} {K:List (Nat × Value)} {L:List Ent}
theorem a_neqOpened {x y:Operand} {yt ty:TypeId} {o:Od} (ho:OdOk o) (hx:ev K x=some (.agg (odC o).toArray)) (hy:ev K y=some (.agg (odC o).toArray)):Does Tryz.prog w0 gs K L (.binOp .neq 76 x y yt) ty (.bool false) :=
  a_neqSame hx hy (fun w=>same_opened o ho w) (fun w=>guard_opened _ _ _ _ _ w)
end
set_option maxHeartbeats 2000000 in
theorem t_TwinOpeneds (xs:List Od) (pt:Option Addr) (c:Nat) (hn:xs.length≤100) :
    Fn Tryz.prog 6 [.slice pt xs.length c] (RdF odC (.slice pt xs.length c) xs) (NewC 76 xs.length (xs.length+1) (xs.flatMap odC++(opC 77 0 0 0 0 0))):=by
  have hadd:IntKind.i64.wrap ((xs.length:Int)+1)=((xs.length+1:Nat):Int):=i64_in' (by omega) (by omega) (by omega)
  refine Fn.enter Tryz.func6 rfl rfl rfl ?_
  intro w hw
  obtain⟨pt',c',e,hpc⟩:=hw
  cases e
  repeat (first|refine Ta ?_|(refine Tm ?_;intro _)|refine WO.does (does_add rfl rfl hadd) ?_|(refine WO.makes (makes_slice (l:=0) (c:=xs.length+1) rfl rfl (by omega) (by omega) (by omega)) ?_;intro g)|refine Tc ?_|exact Tz)
  refine WC.loopI (σ:=Nat) (fun i=>i≤xs.length) (fun i=>[(0,.slice pt xs.length c),(3,.slice (some ⟨g,0,none⟩) i (xs.length+1)),(4,.int .i64 (i:Int))]) (fun i=>[⟨g,76,(xs.take i).flatMap odC++mkz (xs.length+1 - i) (opC 0 0 0 0 0 0)⟩]) (fun i=>xs.length - i) 0 (fun i hi=>?_) (Nat.zero_le _)
  try dsimp only at hi ⊢
  by_cases hlt:i<xs.length
  · obtain⟨x,hx⟩ : ∃ x,xs[i]?=some x:=⟨_,List.getElem?_eq_getElem hlt⟩
    rcases hpc with ⟨_,h0⟩|⟨b,o,rfl,hs⟩
    · rw[h0] at hlt;simp at hlt
    have hadd2:IntKind.i64.wrap ((i:Int)+1)=((i+1:Nat):Int):=i64_in' (by omega) (by omega) (by omega)
    have hcx:cut (xs.flatMap odC) (o+i*15 - o) 15=odC x:=by rw[Nat.add_sub_cancel_left];exact cut_flat odC_len hx
    have hov:=over_twin (f:=odC) (z:=opC 0 0 0 0 0 0) (m:=xs.length+1 - i) odC_len rfl hx (by omega)
    rw[show xs.length+1 - i - 1=xs.length+1 - (i+1) by omega] at hov
    have hle:i*(opC 0 0 0 0 0 0).length+(odC x).length≤((xs.take i).flatMap odC++mkz (xs.length+1 - i) (opC 0 0 0 0 0 0)).length:=by
      rw[List.length_append,flat_length odC_len,mkz_length,List.length_take,Nat.min_eq_left (by omega)]
      show i*15+15≤i*15+(xs.length+1 - i)*15
      have:1*15≤(xs.length+1 - i)*15:=Nat.mul_le_mul_right _ (by omega)
      omega
    repeat (first|refine Ta ?_|(refine Tm ?_;intro _)|refine Tc ?_|exact Tz)
    refine WC.dT rfl (by omega) ?_
    repeat (first|refine Ta ?_|(refine Tm ?_;intro _)|refine WO.does (does_indexSlice (o':=o+i*15) rfl rfl hlt rfl) ?_|refine WO.does (a_loadF (vs:=odC x) (hs:=hs) (hle:=Nat.le_add_right _ _) (hc:=hcx)) ?_|(refine WO.makes (makes_build (t:=36) (cs:=odC x) rfl (by decide) rfl) ?_;intro g2)|refine WO.both (app_room (s:=undef) (z:=opC 0 0 0 0 0 0) rfl rfl (Rds.own (m:=15) Hs.here rfl) rfl (by omega) rfl (by repeat (first|exact Rp.here|apply Rp.there)) hov hle rfl (by decide)) ?_|refine WO.does (does_add rfl rfl hadd2) ?_|refine Tc ?_|exact Tz)
    exact WX.metI (i+1) (hs:=⟨by show i+1≤xs.length;omega,by show xs.length - (i+1)<xs.length - i;omega⟩)
  · have hi2:i=xs.length:=by omega
    subst hi2
    have hov:=over_spare (f:=odC) (xs:=xs) (z:=opC 0 0 0 0 0 0) (s:=opC 77 0 0 0 0 0) odC_len rfl rfl
    have hle:xs.length*(opC 0 0 0 0 0 0).length+(opC 77 0 0 0 0 0).length≤(xs.flatMap odC++mkz 1 (opC 0 0 0 0 0 0)).length:=by
      rw[List.length_append,flat_length odC_len,mkz_length]
      show xs.length*15+15≤xs.length*15+1*15
      omega
    rw[List.take_length,show xs.length+1 - xs.length=1 by omega]
    repeat (first|refine Ta ?_|(refine Tm ?_;intro _)|refine Tc ?_|exact Tz)
    refine WC.dF rfl (by omega) ?_
    repeat (first|refine Ta ?_|(refine Tm ?_;intro _)|refine WO.does (does_buildT (t:=76) (cs:=opC 77 0 0 0 0 0) rfl (by kernel_rfl)) ?_|(refine WO.makes (makes_build (t:=36) (cs:=opC 77 0 0 0 0 0) rfl (by decide) rfl) ?_;intro g2)|refine WO.both (app_room (s:=undef) (z:=opC 0 0 0 0 0 0) rfl rfl (Rds.own (m:=15) Hs.here rfl) rfl (by omega) rfl (by repeat (first|exact Rp.here|apply Rp.there)) hov hle rfl (by decide)) ?_|refine WO.does (does_sliceTo (h:=xs.length) rfl rfl (by omega)) ?_|refine Tc ?_|exact Tz)
    exact WX.retC
set_option maxHeartbeats 2000000 in
theorem t_LeftOpeneds (xs:List Od) (pt:Option Addr) (c bt:Nat) (hn:xs.length≤100) (hO:∀ o∈xs,OdOk o) :
    Fn Tryz.prog 14 [.slice (some ⟨bt,0,none⟩) xs.length (xs.length+1),.slice pt xs.length c] (fun w=>Seg w bt 0 (xs.flatMap odC++(opC 77 0 0 0 0 0))∧RdF odC (.slice pt xs.length c) xs w) (Is (.bool true)):=by
  have hadd:IntKind.i64.wrap ((xs.length:Int)+1)=((xs.length+1:Nat):Int):=i64_in' (by omega) (by omega) (by omega)
  have d0:decide ((xs.length:Int)≠(xs.length:Int))=false:=decide_eq_false (fun h=>h rfl)
  have d1:decide (((xs.length+1:Nat):Int)≤(xs.length:Int))=false:=decide_eq_false (by omega)
  refine Fn.enter Tryz.func14 rfl rfl rfl ?_
  intro w hw
  obtain⟨hwT,pt',c',e,hpc⟩:=hw
  cases e
  repeat (first|refine Ta ?_|(refine Tm ?_;intro _)|refine Tc ?_|exact Tz)
  rw[d0]
  repeat (first|refine Ta ?_|(refine Tm ?_;intro _)|refine WO.does (does_cap rfl) ?_|refine Tc ?_|exact Tz)
  rw[d1]
  repeat (first|refine Ta ?_|(refine Tm ?_;intro _)|refine Tc ?_|exact Tz)
  refine WC.loopI (σ:=Nat) (fun i=>i≤xs.length) (fun i=>[(0,.slice (some ⟨bt,0,none⟩) xs.length (xs.length+1)),(1,.slice pt xs.length c),(5,.int .i64 (i:Int))]) (fun i=>[]) (fun i=>xs.length - i) 0 (fun i hi=>?_) (Nat.zero_le _)
  try dsimp only at hi ⊢
  by_cases hlt:i<xs.length
  · obtain⟨x,hx⟩ : ∃ x,xs[i]?=some x:=⟨_,List.getElem?_eq_getElem hlt⟩
    rcases hpc with ⟨_,h0⟩|⟨b,o,rfl,hs⟩
    · rw[h0] at hlt;simp at hlt
    have hadd2:IntKind.i64.wrap ((i:Int)+1)=((i+1:Nat):Int):=i64_in' (by omega) (by omega) (by omega)
    have hcx:cut (xs.flatMap odC) (o+i*15 - o) 15=odC x:=by rw[Nat.add_sub_cancel_left];exact cut_flat odC_len hx
    have hct:cut (xs.flatMap odC++(opC 77 0 0 0 0 0)) (0+i*15 - 0) 15=odC x:=by rw[Nat.zero_add,Nat.sub_zero];exact cut_flatL odC_len hx
    repeat (first|refine Ta ?_|(refine Tm ?_;intro _)|refine Tc ?_|exact Tz)
    refine WC.dT rfl (by omega) ?_
    repeat (first|refine Ta ?_|(refine Tm ?_;intro _)|refine Tc ?_|exact Tz)
    refine WC.adraw 9 (k:=?_)
    iterate 9 (first|refine Da ?_|refine DQ.does (fun s _=>does_indexSlice (o':=o+i*15) rfl rfl hlt rfl) Dp.const ?_|refine DQ.does (fun s _=>does_indexSlice (o':=0+i*15) rfl rfl hlt rfl) Dp.const ?_|refine DQ.does (fun s _=>a_loadF (vs:=odC x) (hs:=hs) (hle:=Nat.le_add_right _ _) (hc:=hcx)) Dp.const ?_|refine DQ.does (fun s _=>a_loadF (vs:=odC x) (hs:=hwT) (hle:=Nat.zero_le _) (hc:=hct)) Dp.const ?_|refine DQ.does (fun s _=>a_neqOpened (hO x (List.mem_of_getElem? hx)) rfl rfl) Dp.const ?_|refine Dc ?_)
    refine DQ.anil (k:=?_)
    intro sx _
    repeat (first|refine Ta ?_|(refine Tm ?_;intro _)|refine WO.does (does_add rfl rfl hadd2) ?_|refine Tc ?_|exact Tz)
    exact WX.metI (i+1) (hs:=⟨by show i+1≤xs.length;omega,by show xs.length - (i+1)<xs.length - i;omega⟩)
  · have hi2:i=xs.length:=by omega
    subst hi2
    have hct:cut (xs.flatMap odC++(opC 77 0 0 0 0 0)) (0+xs.length*15 - 0) 15=opC 77 0 0 0 0 0:=by rw[Nat.zero_add,Nat.sub_zero];exact cut_flatE odC_len rfl
    have h77:(77:Nat)<B256:=B256_of (by decide)
    repeat (first|refine Ta ?_|(refine Tm ?_;intro _)|refine Tc ?_|exact Tz)
    refine WC.dF rfl (by omega) ?_
    repeat (first|refine Ta ?_|(refine Tm ?_;intro _)|refine WO.does (does_add rfl rfl hadd) ?_|refine WO.does (does_sliceTo (h:=xs.length+1) rfl rfl (Nat.le_refl _)) ?_|refine WO.does (does_indexSlice (o':=0+xs.length*15) rfl rfl (Nat.lt_succ_self _) rfl) ?_|refine WO.does (a_loadF (vs:=opC 77 0 0 0 0 0) (hs:=hwT) (hle:=Nat.zero_le _) (hc:=hct)) ?_|refine WO.does (does_eqlY rfl rfl rfl) ?_|refine Tc ?_|exact Tz)
end Sx
end Go.Proofs.YtiiacjladnljhaaGreatDoor
namespace Go.Proofs.YtiiacjladnljhaaGreatDoor
open Go Go.RowKit Go.BigFrame
namespace Sx
theorem gcd_mod_l (a q:Nat):Nat.gcd (a%q) q=Nat.gcd a q:=by
  rw[Nat.gcd_comm a q,Nat.gcd_rec q a]
def prM (q:Nat) (a:Nat) (ds:List Nat):Nat:=ds.foldl (fun a d=>a*d%q) a
def prI (q:Nat) (a:Nat) (ds:List Nat):Nat:=ds.foldl (fun a d=>a*invN d q%q) a
def copB (q:Nat) (ds:List Nat):Bool:=ds.all fun d=>decide (Nat.gcd d q=1)
theorem prM_snoc (q a:Nat) (ds:List Nat) (d:Nat):prM q a (ds++[d])=prM q a ds*d%q:=by unfold prM;rw[List.foldl_append];rfl
theorem prI_snoc (q a:Nat) (ds:List Nat) (d:Nat):prI q a (ds++[d])=prI q a ds*invN d q%q:=by unfold prI;rw[List.foldl_append];rfl
theorem prM_lt {q a:Nat} (hq:0<q) (ha:a<q) (ds:List Nat):prM q a ds<q:=by
  rcases List.eq_nil_or_concat ds with rfl|⟨r,d,rfl⟩
  · exact ha
  · rw[List.concat_eq_append,prM_snoc];exact Nat.mod_lt _ hq
theorem prI_lt {q a:Nat} (hq:0<q) (ha:a<q) (ds:List Nat):prI q a ds<q:=by
  rcases List.eq_nil_or_concat ds with rfl|⟨r,d,rfl⟩
  · exact ha
  · rw[List.concat_eq_append,prI_snoc];exact Nat.mod_lt _ hq
theorem inv_unique {q a x y:Nat} (hx:x*a%q=1) (hy:y*a%q=1) (hxl:x<q) (hyl:y<q):x=y:=by
  have h1:x*a*y%q=y:=by rw[Nat.mul_mod,hx,Nat.one_mul,Nat.mod_mod,Nat.mod_eq_of_lt hyl]
  have h2:x*a*y%q=x:=by
    rw[Nat.mul_assoc,Nat.mul_comm a y,Nat.mul_mod,hy,Nat.mul_one,Nat.mod_mod,Nat.mod_eq_of_lt hxl]
  rw[← h2,h1]
theorem gcd_mul1 {a b q:Nat}:Nat.gcd (a*b) q=1↔Nat.gcd a q=1∧Nat.gcd b q=1 :=
  ⟨fun h=>⟨Nat.Coprime.coprime_mul_right h,Nat.Coprime.coprime_mul_left h⟩,fun ⟨h1,h2⟩=>Nat.Coprime.mul_left h1 h2⟩
theorem prM_gcd (q:Nat):∀ (ds:List Nat) (a:Nat),Nat.gcd (prM q a ds) q=1↔(Nat.gcd a q=1∧copB q ds=true)
  | [],a=>by simp[prM,copB]
  | d::r,a=>by
    have ih:=prM_gcd q r (a*d%q)
    rw[gcd_mod_l,gcd_mul1] at ih
    show Nat.gcd (prM q (a*d%q) r) q=1↔_
    rw[ih]
    simp[copB,and_assoc]
theorem pr_inv {q:Nat} (hq:1<q):∀ (ds:List Nat) (a b:Nat),(∀ d∈ds,d<q)→copB q ds=true→b*a%q=1→prI q b ds*prM q a ds%q=1
  | [],a,b,_,_,h=>h
  | d::r,a,b,hd,hc,h=>by
    have hc' : Nat.gcd d q=1∧copB q r=true:=by simpa [copB] using hc
    have h1:=(invN_spec hq (hd d (by simp)) hc'.1).1
    refine pr_inv hq r (a*d%q) (b*invN d q%q) (fun x hx=>hd x (by simp[hx])) hc'.2 ?_
    rw[← Nat.mul_mod,show b*invN d q*(a*d)=(b*a)*(invN d q*d) by rw[Nat.mul_assoc,Nat.mul_assoc,Nat.mul_left_comm (invN d q)],Nat.mul_mod,h,h1]
    exact Nat.mod_eq_of_lt hq
theorem inv_prM {q:Nat} (hq:1<q) (ds:List Nat) (hd:∀ d∈ds,d<q) (h:copB q ds=true):invN (prM q 1 ds) q=prI q 1 ds:=by
  have key:=pr_inv hq ds 1 1 hd h (by rw[Nat.one_mul];exact Nat.mod_eq_of_lt hq)
  have hg:=(prM_gcd q ds 1).2 ⟨Nat.gcd_one_left q,h⟩
  obtain⟨h1,h2⟩:=invN_spec hq (prM_lt (by omega) hq ds) hg
  exact inv_unique h1 key h2 (prI_lt (by omega) hq ds)
end Sx
end Go.Proofs.YtiiacjladnljhaaGreatDoor
namespace Go.Proofs.YtiiacjladnljhaaGreatDoor
open Go Go.RowKit Go.BigFrame
namespace Sx
theorem pigeon:∀ (n:Nat) (l:List Nat),l.Nodup→(∀ x∈l,1≤x∧x≤n)→l.length≤n
  | 0,[],_,_=>Nat.le_refl _
  | 0,a::r,_,h=>by have:=h a (by simp);omega
  | n+1,l,hn,h=>by
    by_cases hm:n+1∈l
    · have h1:=pigeon n (l.erase (n+1)) (hn.erase _) (fun x hx=>by
        have:=(hn.mem_erase_iff).1 hx
        have:=h x this.2
        omega)
      rw[List.length_erase_of_mem hm] at h1
      omega
    · have h1:=pigeon n l hn (fun x hx=>by
        have:=h x hx
        have:x≠n+1:=fun e=>hm (e ▸ hx)
        omega)
      omega
def byN (n:Nat) (l:List Od):List Od:=(List.range n).flatMap fun k=>l.filter fun o=>o.n=k+1
theorem mem_byN {n:Nat} {l:List Od} {o:Od} (h:∀ o∈l,1≤o.n∧o.n≤n):o∈byN n l↔o∈l:=by
  unfold byN
  simp only[List.mem_flatMap,List.mem_range,List.mem_filter,decide_eq_true_eq]
  constructor
  · rintro ⟨k,_,h1,_⟩;exact h1
  · intro h1
    have:=h o h1
    exact⟨o.n - 1,by omega,h1,by omega⟩
theorem pw_flat {α:Type} {R:α→α→Prop} {f:Nat→List α}:∀ (n:Nat),(∀ k,k<n→(f k).Pairwise R)→(∀ i j,i<j→j<n→∀ a∈f i,∀ b∈f j,R a b)→((List.range n).flatMap f).Pairwise R
  | 0,_,_=>by simp
  | n+1,h1,h2=>by
    rw[List.range_succ,List.flatMap_append,List.pairwise_append]
    refine⟨pw_flat n (fun k hk=>h1 k (by omega)) (fun i j hi hj=>h2 i j hi (by omega)),by simpa using h1 n (by omega),fun a ha b hb=>?_⟩
    obtain⟨i,hi,ha⟩:=List.mem_flatMap.1 ha
    have hb:b∈f n:=by simpa using hb
    exact h2 i n (List.mem_range.1 hi) (by omega) a ha b hb
theorem byN_sorted {n:Nat} {l:List Od} (hn:(l.map Od.n).Nodup):(byN n l).Pairwise (fun a b=>a.n<b.n):=by
  refine pw_flat n (fun k _=>?_) (fun i j hi hj a ha b hb=>?_)
  · have h1:l.Pairwise (fun a b=>a.n≠b.n):=by
      rw[List.Nodup,List.pairwise_map] at hn
      exact hn
    refine (h1.filter (fun o=>o.n=k+1)).imp_of_mem ?_
    intro a b ha hb hne
    have ea:=(List.mem_filter.1 ha).2
    have eb:=(List.mem_filter.1 hb).2
    simp only[decide_eq_true_eq] at ea eb
    omega
  · have ea:=(List.mem_filter.1 ha).2
    have eb:=(List.mem_filter.1 hb).2
    simp only[decide_eq_true_eq] at ea eb
    omega
theorem sorted_eq:∀ (l r:List Od),l.Pairwise (fun a b=>a.n<b.n)→r.Pairwise (fun a b=>a.n<b.n)→(∀ o,o∈l↔o∈r)→l=r
  | [],[],_,_,_=>rfl
  | [],b::r,_,_,h=>by have:=(h b).2 (by simp);simp at this
  | a::l,[],_,_,h=>by have:=(h a).1 (by simp);simp at this
  | a::l,b::r,h1,h2,h=>by
    rw[List.pairwise_cons] at h1 h2
    have e:a=b:=by
      rcases List.mem_cons.1 ((h a).1 (by simp)) with e|e
      · exact e
      rcases List.mem_cons.1 ((h b).2 (by simp)) with e'|e'
      · exact e'.symm
      have:=h2.1 a e
      have:=h1.1 b e'
      omega
    subst e
    rw[sorted_eq l r h1.2 h2.2 (fun o=>?_)]
    constructor
    · intro ho
      rcases List.mem_cons.1 ((h o).1 (by simp[ho])) with e|e
      · subst e;have:=h1.1 o ho;omega
      · exact e
    · intro ho
      rcases List.mem_cons.1 ((h o).2 (by simp[ho])) with e|e
      · subst e;have:=h2.1 o ho;omega
      · exact e
theorem sort_byN {n:Nat} {l arr:List Od} (hp:arr.Perm l) (hs:arr.Pairwise (fun a b=>a.n≤b.n)) (hd:(l.map Od.n).Nodup) (hn:∀ o∈l,1≤o.n∧o.n≤n):arr=byN n l:=by
  have hd2:arr.Pairwise (fun a b=>a.n≠b.n):=by
    have:=(hp.map Od.n).nodup_iff.2 hd
    rw[List.Nodup,List.pairwise_map] at this
    exact this
  refine sorted_eq _ _ ?_ (byN_sorted hd) (fun o=>?_)
  · refine (hs.and hd2).imp ?_
    intro a b ⟨h1,h2⟩
    omega
  · rw[hp.mem_iff,mem_byN hn]
theorem sorted_nodup:∀ {arr:List Od},arr.Pairwise (fun a b=>a.n≤b.n)→(∀ i a b,arr[i]?=some a→arr[i+1]?=some b→a.n≠b.n)→(arr.map Od.n).Nodup
  | [],_,_=>by simp
  | [a],_,_=>by simp
  | a::b::r,h,hd=>by
    rw[List.pairwise_cons] at h
    have ih:=sorted_nodup h.2 (fun i x y h1 h2=>hd (i+1) x y h1 h2)
    rw[List.map_cons,List.nodup_cons]
    refine⟨fun hm=>?_,ih⟩
    obtain⟨o,ho,e⟩:=List.mem_map.1 hm
    have h0:=hd 0 a b rfl rfl
    have h1:=h.1 b (by simp)
    have hb:=List.pairwise_cons.1 h.2
    rcases List.mem_cons.1 ho with e2|e2
    · subst e2;omega
    · have:=hb.1 o e2;omega
end Sx
end Go.Proofs.YtiiacjladnljhaaGreatDoor
namespace Go.Proofs.YtiiacjladnljhaaGreatDoor
open Go Go.RowKit Go.BigFrame
namespace Sx
def keyO (l:List Od) (i:Nat):Nat:=((l[i]?).map Od.n).getD 0
def Ins (l:List Od) (i j:Nat):Prop:=∀ a b,a<b→b≤i→b≠j→keyO l a≤keyO l b
def Srt (l:List Od) (k:Nat):Prop:=∀ a b,a<b→b<k→keyO l a≤keyO l b
theorem keyO_at {l:List Od} {i:Nat} {o:Od} (h:l[i]?=some o):keyO l i=o.n:=by unfold keyO;rw[h];rfl
theorem Srt.ins {l:List Od} {i:Nat} (h:Srt l i):Ins l i i:=fun a b h1 h2 h3=>h a b h1 (by omega)
theorem Ins.done {l:List Od} {i j:Nat} (h:Ins l i j) (hj:j≤i) (h0:j=0∨∃ k,j=k+1∧keyO l k≤keyO l j):Srt l (i+1):=fun a b h1 h2=>by
  by_cases hb:b=j
  · subst hb
    rcases h0 with h0|⟨k,rfl,hk⟩
    · omega
    · by_cases ha:a=k
      · subst ha;exact hk
      · exact Nat.le_trans (h a k (by omega) (by omega) (by omega)) hk
  · exact h a b h1 (by omega) hb
theorem keyO_set {l:List Od} {i k:Nat} {o:Od} (h:i<l.length):keyO (l.set i o) k=if i=k then o.n else keyO l k:=by
  unfold keyO
  rw[List.getElem?_set]
  split
  · rename_i e;subst e;rfl
  · rfl
theorem Ins.swap {l:List Od} {i j:Nat} {x y:Od} (h:Ins l i (j+1)) (hj:j+1≤i) (hx:l[j]?=some x) (hy:l[j+1]?=some y) (hlt:y.n<x.n):Ins ((l.set (j+1) x).set j y) i j:=fun a b h1 h2 h3=>by
  have e1:=(List.getElem?_eq_some_iff.1 hx).1
  have e2:=(List.getElem?_eq_some_iff.1 hy).1
  have kx:=keyO_at hx
  have ky:=keyO_at hy
  have hk:∀ k,keyO ((l.set (j+1) x).set j y) k=if j=k then y.n else if j+1=k then x.n else keyO l k:=fun k=>by
    rw[keyO_set (by rw[List.length_set];exact e1),keyO_set e2]
  have k0:keyO ((l.set (j+1) x).set j y) j=y.n:=by rw[hk,if_pos rfl]
  have k1:keyO ((l.set (j+1) x).set j y) (j+1)=x.n:=by rw[hk,if_neg (by omega),if_pos rfl]
  have k2:∀ k,k≠j→k≠j+1→keyO ((l.set (j+1) x).set j y) k=keyO l k:=fun k n1 n2=>by rw[hk,if_neg (fun e=>n1 e.symm),if_neg (fun e=>n2 e.symm)]
  generalize (l.set (j+1) x).set j y=l' at *
  by_cases hb:b=j+1
  · subst hb
    rw[k1]
    by_cases ha:a=j
    · subst ha;rw[k0];omega
    · rw[k2 a ha (by omega),← kx]
      exact h a j (by omega) (by omega) (by omega)
  · rw[k2 b h3 hb]
    by_cases ha:a=j
    · subst ha
      rw[k0,← ky]
      exact h (a+1) b (by omega) h2 (by omega)
    · by_cases ha2:a=j+1
      · subst ha2
        rw[k1,← kx]
        exact h j b (by omega) h2 (by omega)
      · rw[k2 a ha ha2]
        exact h a b h1 h2 (by omega)
theorem swap_perm {l:List Od} {j:Nat} {x y:Od} (hx:l[j]?=some x) (hy:l[j+1]?=some y):((l.set (j+1) x).set j y).Perm l:=by
  obtain⟨e1,e2⟩:=List.getElem?_eq_some_iff.1 hx
  obtain⟨e3,e4⟩:=List.getElem?_eq_some_iff.1 hy
  subst e2 e4
  exact List.set_set_perm e3 e1
theorem Srt.pw {l:List Od} (h:Srt l l.length):l.Pairwise (fun a b=>a.n≤b.n):=by
  rw[List.pairwise_iff_getElem]
  intro i j hi hj hij
  have:=h i j hij hj
  rw[keyO_at (List.getElem?_eq_getElem hi),keyO_at (List.getElem?_eq_getElem hj)] at this
  exact this
theorem over_set {α:Type} {f:α→List Value} {k:Nat} (hk:∀ x,(f x).length=k) {l:List α} {i:Nat} {x:α} (hi:i<l.length):over (l.flatMap f) (i*k) (f x)=(l.set i x).flatMap f:=by
  have e:l.flatMap f=(l.take i).flatMap f++(l.drop i).flatMap f:=by rw[← List.flatMap_append,List.take_append_drop]
  have hl:((l.take i).flatMap f).length=i*k:=by rw[flat_length hk,List.length_take];congr 1;omega
  rw[List.drop_eq_getElem_cons hi,List.flatMap_cons] at e
  rw[e,← hl,over_end,List.set_eq_take_append_cons_drop,if_pos hi,List.flatMap_append,List.flatMap_cons,hk x,← hk l[i],List.drop_left,List.append_assoc]
def cmpU (a b:Nat):Int:=if a<b then -1 else if b<a then 1 else 0
theorem cmpU_neg {a b:Nat}:cmpU a b<0↔a<b:=by
  unfold cmpU
  split
  · omega
  · split<;>omega
theorem cmpU_zero {a b:Nat}:cmpU a b=0↔a=b:=by
  unfold cmpU
  split
  · omega
  · split<;>omega
end Sx
end Go.Proofs.YtiiacjladnljhaaGreatDoor
namespace Go.Proofs.YtiiacjladnljhaaGreatDoor
open Go Go.RowKit Go.BigFrame
namespace Sx
section
variable {P:Program} {w0:World} {gs:List Nat} {n:Nat} {ops:List Oper} {Q:Exit→Act→World→Prop} {K:List (Nat × Value)} {L:List Ent} {rest:List Oper}
variable {d:Nat} {ty:TypeId} {pos:String} {after:Array Edge} {gd:Option (Nat × Bool)}
theorem WO.appK {st xt e size bts g len cap m l:Nat} {z xs r ys:List Value} {x y:Operand} {v:Value} {L2:List Ent} [SlT P st e size] [SlT P xt e size] [ElT P e bts z] (hs:size=z.length) (hx:ev K x=some (.slice (some ⟨g,0,none⟩) len cap)) (hy:ev K y=some v)
    (hxl:xs.length=len*z.length) (hcap:(xs++r).length=cap*z.length) (hp:Pk L g e (xs++r) L2) (hr:Rds w0 gs L v m ys) (hyl:ys.length=m*z.length) (h1:ys.all Value.oneCell'=true) (hl:len+m=l) (hlb:l<9223372036854775808) (hc:cap<9223372036854775808) (hnc:l*bts≤140737488355328) (hb:bts≠0) (ht:e≠0)
    (k:∀ g' c' r',(xs++ys++r').length=c' * z.length→c' < 9223372036854775808→l≤c'→WO P w0 gs n ops Q ((d,.slice (some ⟨g',0,none⟩) l c')::K) (⟨g',e,xs++ys++r'⟩::L2) rest) (hd:Nat.blt d n=true:=by rfl) (hw:wk ops K gd=some true:=by rfl) :
    WO P w0 gs n ops Q K L (⟨some d,.call { callee:=.builtin .append,args:=#[x,y],argTypes:=#[st,xt] },ty,pos,after,gd⟩::rest):=by
  subst hl
  intro a w hdf hsz hk hme
  have hr1:=hr.perm hp.perm
  have key:WO P w0 gs n ops Q K (⟨g,e,xs++r⟩::L2) (⟨some d,.call { callee:=.builtin .append,args:=#[x,y],argTypes:=#[st,xt] },ty,pos,after,gd⟩::rest):=by
    by_cases hroom:len+m≤cap
    · have hle:(len+m)*z.length≤cap*z.length:=Nat.mul_le_mul_right _ hroom
      rw[Nat.add_mul] at hle
      have hov:over (xs++r) (len*z.length) ys=xs++ys++r.drop ys.length:=by rw[← hxl];exact over_end
      refine WO.both (app_room (s:=undef) (z:=z) hx hy hr1 hyl hroom h1 Rp.here hov (by rw[hcap,hyl];exact hle) hs ht) (k g cap (r.drop ys.length) ?_ hc hroom) hd hw
      simp only[List.length_append,List.length_drop] at hcap ⊢
      omega
    · refine WO.news (app_new (z:=z) (n:=m) hx hy (ys:=xs) (Rds.own (m:=len*z.length) Hs.here (by unfold cut;rw[List.drop_zero,← hxl,List.take_left])) hxl hr1 hyl (by omega) hlb (growslice_fits (by omega) hnc) hb hs) (fun s hs=>?_) hd hw
      have e1:len*z.length+m*z.length+(s 1 - (len+m))*z.length=s 1*z.length:=by
        rw[← Nat.add_mul,← Nat.add_mul]
        congr 1
        have:=hs.1
        omega
      have hk2:=k (s 0) (s 1) (mkz (s 1 - (len+m)) z) (by rw[List.length_append,List.length_append,mkz_length,hxl,hyl];exact e1) hs.2 hs.1
      exact fun a w h1 h2 h3 h4=>hk2 a w h1 h2 h3 (h4.sub (by simp))
  exact key a w hdf hsz hk (hme.perm hp.perm)
theorem WO.appN {st xt e size bts m:Nat} {z ys:List Value} {x y:Operand} {v:Value} [SlT P st e size] [SlT P xt e size] [ElT P e bts z] (hs:size=z.length) (hx:ev K x=some (.slice none 0 0)) (hy:ev K y=some v)
    (hr:Rds w0 gs L v m ys) (hyl:ys.length=m*z.length) (hm:0<m) (hlb:m<9223372036854775808) (hnc:m*bts≤140737488355328) (hb:bts≠0)
    (k:∀ g' c' r',(ys++r').length=c' * z.length→c' < 9223372036854775808→m≤c'→WO P w0 gs n ops Q ((d,.slice (some ⟨g',0,none⟩) m c')::K) (⟨g',e,ys++r'⟩::L) rest) (hd:Nat.blt d n=true:=by rfl) (hw:wk ops K gd=some true:=by rfl) :
    WO P w0 gs n ops Q K L (⟨some d,.call { callee:=.builtin .append,args:=#[x,y],argTypes:=#[st,xt] },ty,pos,after,gd⟩::rest):=by
  refine WO.news (app_new (z:=z) (n:=m) hx hy (ys:=[]) Rds.nil (by simp) hr hyl (by omega) (by omega) (by rw[Nat.zero_add];exact growslice_fits (by omega) hnc) hb hs) (fun s hs=>?_) hd hw
  obtain⟨h1,h2⟩:=hs
  rw[Nat.zero_add] at h1
  rw[Nat.zero_add]
  have e1:m*z.length+(s 1 - m)*z.length=s 1*z.length:=by
    rw[← Nat.add_mul]
    congr 1
    omega
  have hk2:=k (s 0) (s 1) (mkz (s 1 - m) z) (by rw[List.length_append,mkz_length,hyl];exact e1) h2 h1
  simpa using hk2
end
end Sx
end Go.Proofs.YtiiacjladnljhaaGreatDoor
