/- Part 38 of the proof: DeB, LwC, SyD -/
import Derived.Test.YtmhligfnchegdaaGreatDoorM37
import Derived.Test.YtmhligfnchegdaaGreatDoorM33
import Derived.Test.YtmhligfnchegdaaGreatDoorM34
set_option linter.unusedSimpArgs false
set_option linter.unusedVariables false
namespace Go.Proofs.YtmhligfnchegdaaGreatDoor
open Go Go.RowKit Go.BigFrame
namespace Sx
attribute [local irreducible] wd DQ DQS WO WC WX
theorem RdF.get {α:Type} {f:α→List Value} {pz:Option Addr} {n c:Nat} {xs:List α} {w:World} (h:RdF f (.slice pz n c) xs w) {i:Nat} {x:α} (hx:xs[i]?=some x):∃ b o,pz=some ⟨b,o,none⟩∧n=xs.length∧Seg w b o (xs.flatMap f):=by
  obtain⟨p,c',e,h⟩:=h
  cases e
  rcases h with ⟨_,rfl⟩|⟨b,o,rfl,hs⟩
  · simp at hx
  · exact⟨b,o,rfl,rfl,hs⟩
section
variable (p q g h:Nat) (f sec:Int) (ns:Value)
theorem c_secret (x key:Nat) (hx:x<B256) (hk:key<B256) (hp:p<B256) (hq:q<B256) (hg:g<B256) :
    Fn Tryz.prog 21 [stV p q g h f sec ns,numV x,numV key] Tr (Is (.bool (secB p q g x key))):=by
  have hE:=c_gExp p q g h g x hg hx hp
  simp only[rE] at hE
  have hEl:okV (gMay p g) (g ^ x%p)<B256:=exN_lt (n:=x) (a:=g) hp
  have hS:secB p q g x key=(allN q [x] && gMay p g && decide (okV (gMay p g) (g ^ x%p)=key)):=by
    rw[secB_ex]
    congr 2
    unfold mayN allN
    simp
  have d1:=okE_eq (gMay p g)
  generalize okV (gMay p g) (g ^ x%p)=y at *
  generalize okE (gMay p g)=e at *
  rw[hS,← d1]
  clear hS
  cases hb:allN q [x] with
  | true =>
    have hA:=fun b=>c_pAtY p q g h [x] (some ⟨b,0,none⟩) 1 0 (by simpa using hx) (by show 1≤1099511627776;omega) hq (B256_of (by decide)) hb (by have:=(allN_spec hb).1;omega)
    generalize polyN [x] 0%q=V at *
    rw[Bool.true_and]
    refine Fn.enter Tryz.func21 rfl rfl rfl ?_
    intro w hw
    repeat (first|refine Ta ?_|(refine Tm ?_;intro _)|(refine WO.makes (makes_build (cs:=numC x) rfl (by decide) rfl) ?_;intro _)|refine WO.acallR (hc:=hA _) (hR:=fun w hm=>RdF.seg (f:=numC) (xs:=[x]) (r:=[]) (Hs.seg (by repeat (first|exact Hs.here|apply Hs.there)) hm)) (k:=?_)|refine WO.acall (hc:=hE) (k:=?_)|refine WO.does (a_eqNum (ha:=hEl) (hb:=hk)) ?_|refine Tc ?_|exact Tz)
    by_cases he:e=0
    · have d:decide (e=0)=true:=decide_eq_true he
      rw[d,Bool.true_and]
      repeat (first|refine Ta ?_|(refine Tm ?_;intro _)|refine WO.does (a_eqNum (ha:=hEl) (hb:=hk)) ?_|refine Tc ?_|exact Tz)
    · have d:decide (e=0)=false:=decide_eq_false he
      rw[d,Bool.false_and]
      repeat (first|refine Ta ?_|(refine Tm ?_;intro _)|refine Tc ?_|exact Tz)
  | false =>
    have hA:=fun b=>c_pAtN p q g h [x] (some ⟨b,0,none⟩) 1 0 (by simpa using hx) (by show 1≤1099511627776;omega) hq (B256_of (by decide)) (by rw[hb,Bool.false_and])
    rw[Bool.false_and,Bool.false_and]
    refine Fn.enter Tryz.func21 rfl rfl rfl ?_
    intro w hw
    repeat (first|refine Ta ?_|(refine Tm ?_;intro _)|(refine WO.makes (makes_build (cs:=numC x) rfl (by decide) rfl) ?_;intro _)|refine WO.acallR (hc:=hA _) (hR:=fun w hm=>RdF.seg (f:=numC) (xs:=[x]) (r:=[]) (Hs.seg (by repeat (first|exact Hs.here|apply Hs.there)) hm)) (k:=?_)|refine WO.acall (hc:=hE) (k:=?_)|refine Tc ?_|exact Tz)
    done
end
def lgV (g n:Nat):Nat→Value
  | 0=>.slice none 0 0
  | _+1=>.slice (some ⟨g,0,none⟩) n n
def lgL (g:Nat) (B:List Nat):Nat→List Ent
  | 0=>[]
  | _+1=>[⟨g,5,byC B⟩]
set_option maxHeartbeats 1000000 in
theorem c_long (l:List Nat) (pz:Option Addr) (c:Nat) (hl:l≠[]) (hn:l.length≤8589934592) :
    Fn Tryz.prog 26 [.slice pz l.length c] (RdF numC (.slice pz l.length c) l) (NewS 5 (l.flatMap (be 32)).length (byC (l.flatMap (be 32)))):=by
  refine Fn.enter Tryz.func26 rfl rfl rfl ?_
  intro w hw
  repeat (first|refine Ta ?_|(refine Tm ?_;intro _)|refine Tc ?_|exact Tz)
  refine WC.loopI (σ:=Nat × Nat) (fun s=>s.1≤l.length) (fun s=>[(2,lgV s.2 ((l.take s.1).flatMap (be 32)).length s.1),(5,.slice pz l.length c),(6,.int .i64 (l.length:Int)),(7,.int .i64 (s.1:Int))])
    (fun s=>lgL s.2 ((l.take s.1).flatMap (be 32)) s.1) (fun s=>l.length - s.1) (0,0) (fun s hi=>?_) (Nat.zero_le _)
  obtain⟨i,g⟩:=s
  try dsimp only at hi ⊢
  by_cases hlt:i<l.length
  · obtain⟨x,hx⟩ : ∃ x,l[i]?=some x:=⟨_,List.getElem?_eq_getElem hlt⟩
    obtain⟨b,o,rfl,_,hs⟩:=hw.get hx
    have hadd2:IntKind.i64.wrap ((i:Int)+1)=((i+1:Nat):Int):=i64_in' (by omega) (by omega) (by omega)
    have hcx:cut (l.flatMap numC) (o+i*4 - o) 4=numC x:=by rw[Nat.add_sub_cancel_left];exact cut_flat numC_len hx
    have hst:(l.take i).flatMap (be 32)++be 32 x=(l.take (i+1)).flatMap (be 32):=by rw[List.take_add_one,hx];simp
    have hBl:((l.take i).flatMap (be 32)).length≤549755813888:=by rw[flat_be,List.length_take];omega
    generalize hB2:(l.take (i+1)).flatMap (be 32)=B2 at *
    rcases i with _|i
    · have hP:=c_PutLong [] x 0 none (by decide)
      rw[show []++be 32 x=B2 by rw[← hst];rfl] at hP
      repeat (first|refine Ta ?_|(refine Tm ?_;intro _)|refine Tc ?_|exact Tz)
      refine WC.dT rfl (by omega) ?_
      repeat (first|refine Ta ?_|(refine Tm ?_;intro _)|refine WO.does (does_indexSlice (o':=o+0*4) rfl rfl hlt rfl) ?_|refine WO.does (a_loadF (vs:=numC x) (hs:=hs) (hle:=Nat.le_add_right _ _) (hc:=hcx)) ?_|refine WO.acallN (hc:=hP) (hR:=fun _ _=>Rd.nil) (k:=fun g'=>?_)|refine Tc ?_|exact Tz)
      repeat (first|refine Ta ?_|(refine Tm ?_;intro _)|refine WO.does (does_add rfl rfl hadd2) ?_|refine Tc ?_|exact Tz)
      subst hB2
      exact WX.metI (1,g') (hs:=⟨by show 0+1≤l.length;omega,by show l.length - (0+1)<l.length - 0;omega⟩)
    · have hP:=c_PutLong ((l.take (i+1)).flatMap (be 32)) x ((l.take (i+1)).flatMap (be 32)).length (some ⟨g,0,none⟩) hBl
      rw[hst] at hP
      generalize (l.take (i+1)).flatMap (be 32)=B1 at *
      try dsimp only[lgV,lgL]
      repeat (first|refine Ta ?_|(refine Tm ?_;intro _)|refine Tc ?_|exact Tz)
      refine WC.dT rfl (by omega) ?_
      repeat (first|refine Ta ?_|(refine Tm ?_;intro _)|refine WO.does (does_indexSlice (o':=o+(i+1)*4) rfl rfl hlt rfl) ?_|refine WO.does (a_loadF (vs:=numC x) (hs:=hs) (hle:=Nat.le_add_right _ _) (hc:=hcx)) ?_|refine WO.acallN (hc:=hP) (hR:=fun w1 hm=>Rd.of (Hs.seg (by repeat (first|exact Hs.here|apply Hs.there)) hm)) (k:=fun g'=>?_)|refine Tc ?_|exact Tz)
      repeat (first|refine Ta ?_|(refine Tm ?_;intro _)|refine WO.does (does_add rfl rfl hadd2) ?_|refine Tc ?_|exact Tz)
      subst hB2
      exact WX.metI (i+1+1,g') (hs:=⟨by show i+1+1≤l.length;omega,by show l.length - (i+1+1)<l.length - (i+1);omega⟩)
  · have hi2:i=l.length:=by omega
    subst hi2
    rw[List.take_length]
    cases l with
    | nil=>exact absurd rfl hl
    | cons a r =>
      try dsimp only[lgV,lgL,List.length_cons]
      repeat (first|refine Ta ?_|(refine Tm ?_;intro _)|refine Tc ?_|exact Tz)
      refine WC.dF rfl (by omega) ?_
      repeat (first|refine Ta ?_|(refine Tm ?_;intro _)|refine Tc ?_|exact Tz)
      exact WX.retN
end Sx
end Go.Proofs.YtmhligfnchegdaaGreatDoor
namespace Go.Proofs.YtmhligfnchegdaaGreatDoor
open Go Go.RowKit Go.BigFrame
namespace Sx
attribute [local irreducible] wd DQ DQS WO WC WX
section
variable {w0:World} {gs:List Nat} {K:List (Nat × Value)} {L:List Ent}
theorem a_eqGroupV {x y:Operand} {yt ty:TypeId} {p q g h:Nat} (hx:ev K x=some (.agg (grpC p q g h).toArray)) (hy:ev K y=some (.agg (grpC p q g h).toArray)):Does Tryz.prog w0 gs K L (.binOp .eql 26 x y yt) ty (.bool true) :=
  a_eqSame hx hy (fun w=>same_group p q g h w) (fun w=>guard_group _ _ _ _ _ w)
theorem a_eqSigV {x y:Operand} {yt ty:TypeId} {a b:Nat} (hx:ev K x=some (.agg (twoC a b).toArray)) (hy:ev K y=some (.agg (twoC a b).toArray)):Does Tryz.prog w0 gs K L (.binOp .eql 38 x y yt) ty (.bool true) :=
  a_eqSame hx hy (fun w=>same_sig a b w) (fun w=>guard_sig _ _ _ _ _ w)
theorem run_neqBV (b:Bool) (w:World):(binOp .neq 4 (.bool b) (.bool b)).run Tryz.prog w=.ok (.bool false) w:=by cases b<;>kernel_rfl
theorem guard_boolV (op:BinOp) (x y:Operand) (a b:Bool) (w:World):(eqGuard op 4 x y (.bool a) (.bool b)).run Tryz.prog w=.ok () w:=by cases op<;>kernel_rfl
theorem a_neqBV {x y:Operand} {yt ty:TypeId} {b:Bool} (hx:ev K x=some (.bool b)) (hy:ev K y=some (.bool b)):Does Tryz.prog w0 gs K L (.binOp .neq 4 x y yt) ty (.bool false):=by
  intro ac w hk _ o ho _
  simp only[execOp,ho,hk.eval hx,hk.eval hy,Sem.run_bind,guard_boolV,Result.andThen_ok,run_neqBV,Sem.run_pure]
end
section
variable (p q g h:Nat) (f sec:Int) (pt:Option Addr) (c:Nat) (N:List (Nat × Nat))
set_option maxHeartbeats 2000000 in
theorem u_TwinSetting (hNl:N.length≤100) :
    Fn Tryz.prog 5 [stV p q g h f sec (.slice pt N.length c)] (RdF keyC (.slice pt N.length c) N)
      (Ex (fun s=>stV p q g h f sec (.slice (some ⟨s 0,0,none⟩) N.length (N.length+1))) (fun s=>[⟨s 0,76,N.flatMap keyC++twoC 77 0⟩]) (fun _=>True)):=by
  have hT:=t_TwinKeys N pt c hNl
  refine Fn.enter Tryz.func5 rfl rfl rfl ?_
  intro w hw
  repeat (first|refine Ta ?_|(refine Tm ?_;intro _)|refine Tc ?_|exact Tz)
  refine WC.adraw 10 (k:=?_)
  repeat (first|refine Da ?_|refine DQ.acallC (hc:=hT) (hR:=fun w hm=>hw.mod hm.mod) (k:=?_)|refine Dc ?_)
  refine DQ.anil (k:=?_)
  intro sx _
  generalize sx 8 0=gN
  repeat (first|refine Ta ?_|(refine Tm ?_;intro _)|refine Tc ?_|exact Tz)
  exact WX.ret1 rfl a_rvc [⟨gN,76,N.flatMap keyC++twoC 77 0⟩] (Lle.cons (by repeat (first|exact Pk.here|apply Pk.there)) rfl Lle.nil) ⟨fun _=>gN,rfl,rfl,trivial⟩
set_option maxHeartbeats 2000000 in
theorem u_LeftSetting (bt:Nat) (hNl:N.length≤100) :
    Fn Tryz.prog 12 [stV p q g h f sec (.slice (some ⟨bt,0,none⟩) N.length (N.length+1)),stV p q g h f sec (.slice pt N.length c)]
      (fun w=>Seg w bt 0 (N.flatMap keyC++twoC 77 0)∧RdF keyC (.slice pt N.length c) N w) (Is (.bool true)):=by
  have hL:=t_LeftKeys N pt c bt hNl
  refine Fn.enter Tryz.func12 rfl rfl rfl ?_
  intro w hw
  repeat (first|refine Ta ?_|(refine Tm ?_;intro _)|refine WO.does (a_eqGroupV (p:=p) (q:=q) (g:=g) (h:=h) rfl rfl) ?_|refine WO.does (does_eqlY rfl rfl rfl) ?_|refine WO.acallR (hc:=hL) (hR:=fun w hm=>⟨hw.1.mod hm.mod (by simp),hw.2.mod hm.mod⟩) (k:=?_)|refine Tc ?_|exact Tz)
  done
end
set_option maxHeartbeats 2000000 in
theorem u_SameNums (xs:List (Nat)) (pa pb:Option Addr) (ca cb:Nat) (hn:xs.length≤100) :
    Fn Tryz.prog 48 [.slice pa xs.length ca,.slice pb xs.length cb] (fun w=>RdF numC (.slice pa xs.length ca) xs w∧RdF numC (.slice pb xs.length cb) xs w) (Is (.bool true)):=by
  have d0:decide ((xs.length:Int)≠(xs.length:Int))=false:=decide_eq_false (fun h=>h rfl)
  refine Fn.enter Tryz.func48 rfl rfl rfl ?_
  intro w hw
  obtain⟨hwA,hwB⟩:=hw
  repeat (first|refine Ta ?_|(refine Tm ?_;intro _)|refine Tc ?_|exact Tz)
  rw[d0]
  repeat (first|refine Ta ?_|(refine Tm ?_;intro _)|refine Tc ?_|exact Tz)
  refine WC.loopI (σ:=Nat) (fun i=>i≤xs.length) (fun i=>[(0,.slice pa xs.length ca),(1,.slice pb xs.length cb),(5,.int .i64 (i:Int))]) (fun i=>[]) (fun i=>xs.length - i) 0 (fun i hi=>?_) (Nat.zero_le _)
  try dsimp only at hi ⊢
  by_cases hlt:i<xs.length
  · obtain⟨x,hx⟩ : ∃ x,xs[i]?=some x:=⟨_,List.getElem?_eq_getElem hlt⟩
    obtain⟨b,o,rfl,_,hs⟩:=hwA.get hx
    obtain⟨b2,o2,rfl,_,hs2⟩:=hwB.get hx
    have hadd2:IntKind.i64.wrap ((i:Int)+1)=((i+1:Nat):Int):=i64_in' (by omega) (by omega) (by omega)
    have hcx:cut (xs.flatMap numC) (o+i*4 - o) 4=numC x:=by rw[Nat.add_sub_cancel_left];exact cut_flat numC_len hx
    have hcy:cut (xs.flatMap numC) (o2+i*4 - o2) 4=numC x:=by rw[Nat.add_sub_cancel_left];exact cut_flat numC_len hx
    repeat (first|refine Ta ?_|(refine Tm ?_;intro _)|refine Tc ?_|exact Tz)
    refine WC.dT rfl (by omega) ?_
    repeat (first|refine Ta ?_|(refine Tm ?_;intro _)|refine Tc ?_|exact Tz)
    refine WC.adraw 9 (k:=?_)
    iterate 2 (refine DQ.auto (k:=?_))
    refine DQ.does (fun s _=>does_indexSlice (o':=o+i*4) rfl rfl hlt rfl) Dp.const ?_
    refine DQ.does (fun s _=>a_loadF (vs:=numC x) (hs:=hs) (hle:=Nat.le_add_right _ _) (hc:=hcx)) Dp.const ?_
    iterate 2 (refine DQ.auto (k:=?_))
    refine DQ.does (fun s _=>does_indexSlice (o':=o2+i*4) rfl rfl hlt rfl) Dp.const ?_
    refine DQ.does (fun s _=>a_loadF (vs:=numC x) (hs:=hs2) (hle:=Nat.le_add_right _ _) (hc:=hcy)) Dp.const ?_
    refine DQ.does (fun s _=>a_neqSame rfl rfl (fun w=>same_num x w) (fun w=>run_eqGuard_num _ _ _ _ _ w)) Dp.const ?_
    refine DQ.anil (k:=?_)
    intro sx _
    repeat (first|refine Ta ?_|(refine Tm ?_;intro _)|refine WO.does (does_add rfl rfl hadd2) ?_|refine Tc ?_|exact Tz)
    exact WX.metI (i+1) (hs:=⟨by show i+1≤xs.length;omega,by show xs.length - (i+1)<xs.length - i;omega⟩)
  · have hi2:i=xs.length:=by omega
    subst hi2
    repeat (first|refine Ta ?_|(refine Tm ?_;intro _)|refine Tc ?_|exact Tz)
    refine WC.dF rfl (by omega) ?_
    repeat (first|refine Ta ?_|(refine Tm ?_;intro _)|refine Tc ?_|exact Tz)
set_option maxHeartbeats 2000000 in
theorem u_SameProofs (xs:List (Nat × Nat)) (pa pb:Option Addr) (ca cb:Nat) (hn:xs.length≤100) :
    Fn Tryz.prog 49 [.slice pa xs.length ca,.slice pb xs.length cb] (fun w=>RdF pfC (.slice pa xs.length ca) xs w∧RdF pfC (.slice pb xs.length cb) xs w) (Is (.bool true)):=by
  have d0:decide ((xs.length:Int)≠(xs.length:Int))=false:=decide_eq_false (fun h=>h rfl)
  refine Fn.enter Tryz.func49 rfl rfl rfl ?_
  intro w hw
  obtain⟨hwA,hwB⟩:=hw
  repeat (first|refine Ta ?_|(refine Tm ?_;intro _)|refine Tc ?_|exact Tz)
  rw[d0]
  repeat (first|refine Ta ?_|(refine Tm ?_;intro _)|refine Tc ?_|exact Tz)
  refine WC.loopI (σ:=Nat) (fun i=>i≤xs.length) (fun i=>[(0,.slice pa xs.length ca),(1,.slice pb xs.length cb),(5,.int .i64 (i:Int))]) (fun i=>[]) (fun i=>xs.length - i) 0 (fun i hi=>?_) (Nat.zero_le _)
  try dsimp only at hi ⊢
  by_cases hlt:i<xs.length
  · obtain⟨x,hx⟩ : ∃ x,xs[i]?=some x:=⟨_,List.getElem?_eq_getElem hlt⟩
    obtain⟨b,o,rfl,_,hs⟩:=hwA.get hx
    obtain⟨b2,o2,rfl,_,hs2⟩:=hwB.get hx
    have hadd2:IntKind.i64.wrap ((i:Int)+1)=((i+1:Nat):Int):=i64_in' (by omega) (by omega) (by omega)
    have hcx:cut (xs.flatMap pfC) (o+i*8 - o) 8=pfC x:=by rw[Nat.add_sub_cancel_left];exact cut_flat pfC_len hx
    have hcy:cut (xs.flatMap pfC) (o2+i*8 - o2) 8=pfC x:=by rw[Nat.add_sub_cancel_left];exact cut_flat pfC_len hx
    repeat (first|refine Ta ?_|(refine Tm ?_;intro _)|refine Tc ?_|exact Tz)
    refine WC.dT rfl (by omega) ?_
    repeat (first|refine Ta ?_|(refine Tm ?_;intro _)|refine Tc ?_|exact Tz)
    refine WC.adraw 9 (k:=?_)
    iterate 2 (refine DQ.auto (k:=?_))
    refine DQ.does (fun s _=>does_indexSlice (o':=o+i*8) rfl rfl hlt rfl) Dp.const ?_
    refine DQ.does (fun s _=>a_loadF (vs:=pfC x) (hs:=hs) (hle:=Nat.le_add_right _ _) (hc:=hcx)) Dp.const ?_
    iterate 2 (refine DQ.auto (k:=?_))
    refine DQ.does (fun s _=>does_indexSlice (o':=o2+i*8) rfl rfl hlt rfl) Dp.const ?_
    refine DQ.does (fun s _=>a_loadF (vs:=pfC x) (hs:=hs2) (hle:=Nat.le_add_right _ _) (hc:=hcy)) Dp.const ?_
    refine DQ.does (fun s _=>a_neqSame rfl rfl (fun w=>same_proof x.1 x.2 w) (fun w=>guard_proof _ _ _ _ _ w)) Dp.const ?_
    refine DQ.anil (k:=?_)
    intro sx _
    repeat (first|refine Ta ?_|(refine Tm ?_;intro _)|refine WO.does (does_add rfl rfl hadd2) ?_|refine Tc ?_|exact Tz)
    exact WX.metI (i+1) (hs:=⟨by show i+1≤xs.length;omega,by show xs.length - (i+1)<xs.length - i;omega⟩)
  · have hi2:i=xs.length:=by omega
    subst hi2
    repeat (first|refine Ta ?_|(refine Tm ?_;intro _)|refine Tc ?_|exact Tz)
    refine WC.dF rfl (by omega) ?_
    repeat (first|refine Ta ?_|(refine Tm ?_;intro _)|refine Tc ?_|exact Tz)
section
variable (ep d sC sS:Nat) (pV pY pP p2V p2Y p2P:Option Addr) (cV cY cP c2V c2Y c2P:Nat) (V Y:List Nat) (Pr:List (Nat × Nat))
set_option maxHeartbeats 2000000 in
theorem u_SameDealing (hV:V.length≤100) (hY:Y.length≤100) (hP:Pr.length≤100) :
    Fn Tryz.prog 11 [dlV ep d (.slice pV V.length cV) (.slice pY Y.length cY) (.slice pP Pr.length cP) sC sS,dlV ep d (.slice p2V V.length c2V) (.slice p2Y Y.length c2Y) (.slice p2P Pr.length c2P) sC sS]
      (fun w=>(RdF numC (.slice pV V.length cV) V w∧RdF numC (.slice p2V V.length c2V) V w)∧(RdF numC (.slice pY Y.length cY) Y w∧RdF numC (.slice p2Y Y.length c2Y) Y w)∧(RdF pfC (.slice pP Pr.length cP) Pr w∧RdF pfC (.slice p2P Pr.length c2P) Pr w)) (Is (.bool true)):=by
  have h1:=u_SameNums V pV p2V cV c2V hV
  have h2:=u_SameNums Y pY p2Y cY c2Y hY
  have h3:=u_SameProofs Pr pP p2P cP c2P hP
  refine Fn.enter Tryz.func11 rfl rfl rfl ?_
  intro w hw
  obtain⟨⟨v1,v2⟩,⟨w1,w2⟩,x1,x2⟩:=hw
  repeat (first|refine Ta ?_|(refine Tm ?_;intro _)|refine WO.does (a_eqSigV (a:=sC) (b:=sS) rfl rfl) ?_|refine WO.does (does_eqlY rfl rfl rfl) ?_|refine WO.acallR (hc:=h1) (hR:=fun w hm=>⟨v1.mod hm.mod,v2.mod hm.mod⟩) (k:=?_)|refine WO.acallR (hc:=h2) (hR:=fun w hm=>⟨w1.mod hm.mod,w2.mod hm.mod⟩) (k:=?_)|refine WO.acallR (hc:=h3) (hR:=fun w hm=>⟨x1.mod hm.mod,x2.mod hm.mod⟩) (k:=?_)|refine Tc ?_|exact Tz)
  done
end
abbrev gdV (ep d:Nat) (ps:Value) (x:Nat):Value:=.agg #[.int .u64 (ep:Int),.int .u8 (d:Int),ps,.int .u64 ((wd 0 x:Nat):Int),.int .u64 ((wd 1 x:Nat):Int),.int .u64 ((wd 2 x:Nat):Int),.int .u64 ((wd 3 x:Nat):Int)]
abbrev gdC (ep d:Nat) (ps:Value) (x:Nat):List Value:=[.int .u64 (ep:Int),.int .u8 (d:Int),ps,.int .u64 ((wd 0 x:Nat):Int),.int .u64 ((wd 1 x:Nat):Int),.int .u64 ((wd 2 x:Nat):Int),.int .u64 ((wd 3 x:Nat):Int)]
section
variable (p q g h:Nat) (f sec:Int) (ep d x:Nat) (p0 p1:Option Addr) (n0 n1 c0 c1:Nat)
theorem u_great0 (h0:(100:Int)<(n0:Int)):Fn Tryz.prog 4 [stV p q g h f sec (.slice p0 n0 c0),gdV ep d (.slice p1 n1 c1) x] Tr (Is (.bool true)):=by
  refine Fn.enter Tryz.func4 rfl rfl rfl ?_
  intro w hw
  repeat (first|refine Ta ?_|(refine Tm ?_;intro _)|refine WO.does (does_gtrY rfl rfl h0) ?_|refine Tc ?_|exact Tz)
  done
theorem u_great1 (h0:¬ (100:Int)<(n0:Int)) (h1:(100:Int)<(n1:Int)):Fn Tryz.prog 4 [stV p q g h f sec (.slice p0 n0 c0),gdV ep d (.slice p1 n1 c1) x] Tr (Is (.bool true)):=by
  refine Fn.enter Tryz.func4 rfl rfl rfl ?_
  intro w hw
  repeat (first|refine Ta ?_|(refine Tm ?_;intro _)|refine WO.does (does_gtrY rfl rfl h1) ?_|refine WO.does (does_gtrN rfl rfl h0) ?_|refine Tc ?_|exact Tz)
  done
theorem u_great2 (h0:¬ (100:Int)<(n0:Int)) (h1:¬ (100:Int)<(n1:Int)):Fn Tryz.prog 4 [stV p q g h f sec (.slice p0 n0 c0),gdV ep d (.slice p1 n1 c1) x] Tr (Is (.bool false)):=by
  refine Fn.enter Tryz.func4 rfl rfl rfl ?_
  intro w hw
  repeat (first|refine Ta ?_|(refine Tm ?_;intro _)|refine WO.does (does_gtrN rfl rfl h1) ?_|refine WO.does (does_gtrN rfl rfl h0) ?_|refine Tc ?_|exact Tz)
  done
end
end Sx
end Go.Proofs.YtmhligfnchegdaaGreatDoor
namespace Go.Proofs.YtmhligfnchegdaaGreatDoor
open Go Go.RowKit Go.BigFrame
namespace Sx
section
variable {P:Program} {w0:World} {gs:List Nat} {n:Nat} {ops:List Oper} {Q:Exit→Act→World→Prop} {K:List (Nat × Value)} {L:List Ent} {rest:List Oper}
variable {d:Nat} {ty:TypeId} {pos:String} {after:Array Edge} {gd:Option (Nat × Bool)}
theorem WO.appK {st xt e size bts g len cap m l:Nat} {z xs r ys:List Value} {x y:Operand} {v:Value} {L2:List Ent} [SlT P st e size] [SlT P xt e size] [ElT P e bts z] (hs:size=z.length) (hx:ev K x=some (.slice (some ⟨g,0,none⟩) len cap)) (hy:ev K y=some v)
    (hxl:xs.length=len*z.length) (hcap:(xs++r).length=cap*z.length) (hp:Pk L g e (xs++r) L2) (hr:Rds w0 gs L v m ys) (hyl:ys.length=m*z.length) (h1:ys.all Value.oneCell'=true) (hl:len+m=l) (hlb:l<9223372036854775808) (hc:cap<9223372036854775808) (hnc:l*bts≤140737488355328) (hb:bts≠0) (ht:e≠0)
    (k:∀ g' c' r',(xs++ys++r').length=c' * z.length→c' < 9223372036854775808→l≤c'→WO P w0 gs n ops Q ((d,.slice (some ⟨g',0,none⟩) l c')::K) (⟨g',e,xs++ys++r'⟩::L2) rest) (hd:Nat.blt d n=true:=by rfl) (hw:wk ops K gd=some true:=by rfl) :
    WO P w0 gs n ops Q K L (⟨some d,.call { callee:=.builtin .append,args:=#[x,y],argTypes:=#[st,xt] },ty,pos,after,gd⟩::rest):=by
  subst hl
  intro a w hdf hsz hk hme
  have hr1:=hr.perm hp.perm
  have key:WO P w0 gs n ops Q K (⟨g,e,xs++r⟩::L2) (⟨some d,.call { callee:=.builtin .append,args:=#[x,y],argTypes:=#[st,xt] },ty,pos,after,gd⟩::rest):=by
    by_cases hroom:len+m≤cap
    · have hle:(len+m)*z.length≤cap*z.length:=Nat.mul_le_mul_right _ hroom
      rw[Nat.add_mul] at hle
      have hov:over (xs++r) (len*z.length) ys=xs++ys++r.drop ys.length:=by rw[← hxl];exact over_end
      refine WO.both (app_room (s:=undef) (z:=z) hx hy hr1 hyl hroom h1 Rp.here hov (by rw[hcap,hyl];exact hle) hs ht) (k g cap (r.drop ys.length) ?_ hc hroom) hd hw
      simp only[List.length_append,List.length_drop] at hcap ⊢
      omega
    · refine WO.news (app_new (z:=z) (n:=m) hx hy (ys:=xs) (Rds.own (m:=len*z.length) Hs.here (by unfold cut;rw[List.drop_zero,← hxl,List.take_left])) hxl hr1 hyl (by omega) hlb (growslice_fits (by omega) hnc) hb hs) (fun s hs=>?_) hd hw
      have e1:len*z.length+m*z.length+(s 1 - (len+m))*z.length=s 1*z.length:=by
        rw[← Nat.add_mul,← Nat.add_mul]
        congr 1
        have:=hs.1
        omega
      have hk2:=k (s 0) (s 1) (mkz (s 1 - (len+m)) z) (by rw[List.length_append,List.length_append,mkz_length,hxl,hyl];exact e1) hs.2 hs.1
      exact fun a w h1 h2 h3 h4=>hk2 a w h1 h2 h3 (h4.sub (by simp))
  exact key a w hdf hsz hk (hme.perm hp.perm)
theorem WO.appN {st xt e size bts m:Nat} {z ys:List Value} {x y:Operand} {v:Value} [SlT P st e size] [SlT P xt e size] [ElT P e bts z] (hs:size=z.length) (hx:ev K x=some (.slice none 0 0)) (hy:ev K y=some v)
    (hr:Rds w0 gs L v m ys) (hyl:ys.length=m*z.length) (hm:0<m) (hlb:m<9223372036854775808) (hnc:m*bts≤140737488355328) (hb:bts≠0)
    (k:∀ g' c' r',(ys++r').length=c' * z.length→c' < 9223372036854775808→m≤c'→WO P w0 gs n ops Q ((d,.slice (some ⟨g',0,none⟩) m c')::K) (⟨g',e,ys++r'⟩::L) rest) (hd:Nat.blt d n=true:=by rfl) (hw:wk ops K gd=some true:=by rfl) :
    WO P w0 gs n ops Q K L (⟨some d,.call { callee:=.builtin .append,args:=#[x,y],argTypes:=#[st,xt] },ty,pos,after,gd⟩::rest):=by
  refine WO.news (app_new (z:=z) (n:=m) hx hy (ys:=[]) Rds.nil (by simp) hr hyl (by omega) (by omega) (by rw[Nat.zero_add];exact growslice_fits (by omega) hnc) hb hs) (fun s hs=>?_) hd hw
  obtain⟨h1,h2⟩:=hs
  rw[Nat.zero_add] at h1
  rw[Nat.zero_add]
  have e1:m*z.length+(s 1 - m)*z.length=s 1*z.length:=by
    rw[← Nat.add_mul]
    congr 1
    omega
  have hk2:=k (s 0) (s 1) (mkz (s 1 - m) z) (by rw[List.length_append,mkz_length,hyl];exact e1) h2 h1
  simpa using hk2
end
end Sx
end Go.Proofs.YtmhligfnchegdaaGreatDoor
