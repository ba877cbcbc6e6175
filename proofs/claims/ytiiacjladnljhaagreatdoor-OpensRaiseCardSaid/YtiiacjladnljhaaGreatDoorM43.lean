/- Part 43 of the proof: BkF, BkG -/
import Derived.Test.YtiiacjladnljhaaGreatDoorM42
import Derived.Test.YtiiacjladnljhaaGreatDoorM34
set_option linter.unusedSimpArgs false
set_option linter.unusedVariables false
namespace Go.Proofs.YtiiacjladnljhaaGreatDoor
open Go Go.RowKit Go.BigFrame
namespace Sx
attribute [local irreducible] wd DQ DQS WO WC WX
abbrev mkC (m:Nat):List Value:=twoC m 0
theorem num_small {m:Nat} (h:m<18446744073709551616):numC m=[.int .u64 (m:Int),.int .u64 0,.int .u64 0,.int .u64 0]:=by
  have h0:wd 0 m=m:=wd0_lt h
  have h1:wd 1 m=0:=by unfold wd;simp only;rw[Nat.div_eq_of_lt h]
  have h2:wd 2 m=0:=by unfold wd;simp only;rw[Nat.div_eq_of_lt (by omega)]
  have h3:wd 3 m=0:=by unfold wd;simp only;rw[Nat.div_eq_of_lt (by omega)]
  unfold numC
  rw[h0,h1,h2,h3]
  rfl
theorem k_markNum (m:Nat) (hm:m<1000):Fn Tryz.prog 123 [.int .i64 (m:Int)] Tr (Is (.agg (numC m).toArray)):=by
  have hcv:IntKind.u64.wrap (m:Int)=(m:Int):=u64_in (by omega) (by omega)
  have hn:=num_small (m:=m) (by omega)
  refine Fn.enter Tryz.func123 rfl rfl rfl ?_
  intro w hw
  repeat (first|refine WO.does (does_buildA (cs:=numC m) rfl rfl (by rw[hn];kernel_rfl)) ?_|refine Ta ?_|(refine Tm ?_;intro _)|refine WO.does (does_conv rfl hcv) ?_|refine Tc ?_|exact Tz)
theorem k_markKey (m:Nat) (hm:m<1000):Fn Tryz.prog 126 [.int .i64 (m:Int)] Tr (Is (.agg (mkC m).toArray)):=by
  have hcv:IntKind.u64.wrap (m:Int)=(m:Int):=u64_in (by omega) (by omega)
  have hn:=num_small (m:=m) (by omega)
  refine Fn.enter Tryz.func126 rfl rfl rfl ?_
  intro w hw
  repeat (first|refine WO.does (does_buildA (cs:=numC m) rfl rfl (by rw[hn];kernel_rfl)) ?_|refine WO.does (does_buildT (t:=97) (cs:=mkC m) rfl (by kernel_rfl)) ?_|refine Ta ?_|(refine Tm ?_;intro _)|refine WO.does (does_conv rfl hcv) ?_|refine Tc ?_|exact Tz)
set_option maxHeartbeats 2000000 in
theorem k_fillNum (m:Nat) (b c d:Value) (bk g cc n:Nat) (E:Nat→HE) (r:List Value) (hn:n<1000) (hE:∀ k,k<n→(E k).ok 4) :
    FnL Tryz.prog 43 [pt bk] (⟨bk,68,bkC m (.slice (some ⟨g,0,none⟩) n cc) b c d⟩::⟨g,124,(List.range n).flatMap (fun k=>(E k).row)++r⟩::(List.range n).flatMap (fun k=>(E k).L 24)) Tr
      (fun v N=>v=.tuple #[]∧N=⟨bk,68,bkC m (.slice (some ⟨g,0,none⟩) n cc) b c d⟩::⟨g,124,(List.range n).flatMap (fun k=>(E k).row)++r⟩::(List.range n).flatMap (fun k=>((E k).fill numC).L 24)):=by
  refine FnL.enter Tryz.func43 rfl rfl rfl ?_
  intro w hw
  generalize List.map Ent.g _=gs
  repeat (first|refine Ta ?_|(refine Tm ?_;intro _)|refine Tc ?_|exact Tz)
  refine WC.loopI (σ:=Nat) (fun i=>i≤n) (fun i=>[(0,pt bk),(2,.int .i64 (i:Int))]) (fun i=>⟨bk,68,bkC m (.slice (some ⟨g,0,none⟩) n cc) b c d⟩::⟨g,124,(List.range n).flatMap (fun k=>(E k).row)++r⟩::stL (fun k=>((E k).fill numC).L 24) (fun k=>(E k).L 24) n i) (fun i=>n - i) 0 (fun i hi=>?_) (Nat.zero_le _) (hl:=by rw[stL_zero];exact Lle.same)
  try dsimp only at hi ⊢
  by_cases hlt:i<n
  · have hok:=hE i hlt
    have hrow:cut ((List.range n).flatMap (fun k=>(E k).row)++r) (0+i*3) 3=(E i).row:=by rw[Nat.zero_add];exact cut_st0 hlt (fun k=>rfl)
    have hp0:=stL_perm (A:=(fun k=>((E k).fill numC).L 24)) (B:=(fun k=>(E k).L 24)) hlt
    have hp1:=stL_perm1 (A:=(fun k=>((E k).fill numC).L 24)) (B:=(fun k=>(E k).L 24)) hlt
    have hadd2:IntKind.i64.wrap ((i:Int)+1)=((i+1:Nat):Int):=i64_in' (by omega) (by omega) (by omega)
    refine WC.permL ((hp0.cons _).cons _) ?_
    generalize hL1:stL (fun k=>((E k).fill numC).L 24) (fun k=>(E k).L 24) n (i+1)=L1 at *
    generalize stL (fun k=>((E k).fill numC).L 24) (fun k=>(E k).L 24) n i=L0 at *
    generalize stR (fun k=>((E k).fill numC).L 24) (fun k=>(E k).L 24) n i=R at *
    generalize (List.range n).flatMap (fun k=>(E k).row)++r=rows at *
    try dsimp only at hp0 hp1
    generalize E i=e at *
    clear hp0 hE
    obtain⟨eb,en,ec,ecs,em⟩:=e
    cases eb with
    | none =>
      have h0:en=0:=(hok.nil rfl).1
      subst h0
      have hrow:cut rows (0+i*3) 3=[.slice none 0 ec,.slice none 0 0,.int .i64 (em:Int)]:=hrow
      rw[show HE.L 24 ⟨none,0,ec,ecs,em⟩=[] from rfl,List.nil_append]
      repeat (first|refine Ta ?_|(refine Tm ?_;intro _)|refine Tc ?_|exact Tz)
      refine WC.dT rfl (by omega) ?_
      repeat (first|refine WC.loopU 1 ?_|refine Ta ?_|(refine Tm ?_;intro _)|refine WO.does (does_indexSlice (o':=0+i*3) rfl rfl hlt rfl) ?_|refine WO.does (a_load (vs:=[.slice none 0 ec,.slice none 0 0,.int .i64 (em:Int)]) (hc:=hrow)) ?_|refine WO.does (does_add rfl rfl hadd2) ?_|refine Tc ?_|exact Tz)
      refine WX.dropL (.cons _ (.refl _)) (WX.permL ((hp1.symm.cons _).cons _) ?_)
      subst hL1
      exact WX.metI (i+1) (hl:=Lle.same) (hs:=⟨by show i+1≤n;omega,by show n - (i+1)<n - i;omega⟩)
    | some eb =>
      have hle:en≤ec:=hok.le
      have hmost:en≤100:=hok.most
      have hlen:ecs.length=ec*4:=hok.len
      have hem:em<1000:=hok.mark
      have hmk:=k_markNum em hem
      have hrow:cut rows (0+i*3) 3=[.slice (some ⟨eb,0,none⟩) en ec,.slice none 0 0,.int .i64 (em:Int)]:=hrow
      rw[show HE.L 24 ⟨some eb,en,ec,ecs,em⟩=[⟨eb,24,ecs⟩] from rfl,List.singleton_append]
      repeat (first|refine Ta ?_|(refine Tm ?_;intro _)|refine Tc ?_|exact Tz)
      refine WC.dT rfl (by omega) ?_
      repeat (first|refine Ta ?_|(refine Tm ?_;intro _)|refine WO.does (does_indexSlice (o':=0+i*3) rfl rfl hlt rfl) ?_|refine WO.does (a_load (vs:=[.slice (some ⟨eb,0,none⟩) en ec,.slice none 0 0,.int .i64 (em:Int)]) (hc:=hrow)) ?_|refine Tc ?_|exact Tz)
      rename_i gH
      refine WC.loopI (σ:=Nat) (fun k=>k≤en) (fun k=>[(0,pt bk),(2,.int .i64 (i:Int)),(3,pt gH),(4,.int .i64 (k:Int))]) (fun k=>⟨gH,124,[.slice (some ⟨eb,0,none⟩) en ec,.slice none 0 0,.int .i64 (em:Int)]⟩::⟨bk,68,bkC m (.slice (some ⟨g,0,none⟩) n cc) b c d⟩::⟨g,124,rows⟩::⟨eb,24,mkz k (numC em)++ecs.drop (k*4)⟩::R) (fun k=>en - k) 0 (fun k hk=>?_) (Nat.zero_le _) (hl:=by rw[Nat.zero_mul];exact Lle.same)
      try dsimp only at hk ⊢
      by_cases hkn:k<en
      · have hadd3:IntKind.i64.wrap ((k:Int)+1)=((k+1:Nat):Int):=i64_in' (by omega) (by omega) (by omega)
        have hov:over (mkz k (numC em)++ecs.drop (k*4)) (0+k*4) (numC em)=mkz (k+1) (numC em)++ecs.drop ((k+1)*4):=by rw[Nat.zero_add];exact over_mark
        have hbl:Nat.ble (0+k*4+4) (mkz k (numC em)++ecs.drop (k*4)).length=true:=by
          rw[Nat.ble_eq,List.length_append,mkz_length,List.length_drop,hlen,Nat.zero_add]
          show k*4+4≤k*4+(ec*4 - k*4)
          omega
        repeat (first|refine Ta ?_|(refine Tm ?_;intro _)|refine Tc ?_|exact Tz)
        refine WC.dT rfl (by omega) ?_
        repeat (first|refine Ta ?_|(refine Tm ?_;intro _)|refine Tc ?_|exact Tz)
        refine WC.adraw 7 (k:=?_)
        iterate 7 (first|refine Da ?_|refine DQ.acall (hc:=hmk) (k:=?_)|refine DQ.does (fun s _=>does_indexSlice (o':=0+k*4) rfl rfl hkn rfl) Dp.const ?_|refine Dc ?_)
        refine DQ.anil (k:=?_)
        intro sx _
        refine WO.stores (a_store (vs:=numC em) (cs':=mkz (k+1) (numC em)++ecs.drop ((k+1)*4)) (hc:=hov) (hle:=hbl)) ?_
        repeat (first|refine Ta ?_|(refine Tm ?_;intro _)|refine WO.does (does_add rfl rfl hadd3) ?_|refine Tc ?_|exact Tz)
        exact WX.metI (k+1) (hs:=⟨by show k+1≤en;omega,by show en - (k+1)<en - k;omega⟩) (hl:=Lle.same)
      · have hk2:k=en:=by omega
        subst hk2
        repeat (first|refine Ta ?_|(refine Tm ?_;intro _)|refine Tc ?_|exact Tz)
        refine WC.dF rfl (by omega) ?_
        repeat (first|refine Ta ?_|(refine Tm ?_;intro _)|refine WO.does (does_add rfl rfl hadd2) ?_|refine Tc ?_|exact Tz)
        refine WX.dropL (.cons _ (.refl _)) (WX.permL ((hp1.symm.cons _).cons _) ?_)
        subst hL1
        exact WX.metI (i+1) (hl:=Lle.same) (hs:=⟨by show i+1≤n;omega,by show n - (i+1)<n - i;omega⟩)
  · have hi2:i=n:=by omega
    subst hi2
    repeat (first|refine Ta ?_|(refine Tm ?_;intro _)|refine Tc ?_|exact Tz)
    refine WC.dF rfl (by omega) ?_
    repeat (first|refine Ta ?_|(refine Tm ?_;intro _)|refine Tc ?_|exact Tz)
    exact WX.retP_ofN (resP0 rfl) Lle.same ⟨rfl,by rw[stL_full]⟩
set_option maxHeartbeats 2000000 in
theorem k_fillKey (m:Nat) (a c d:Value) (bk g cc n:Nat) (E:Nat→HE) (r:List Value) (hn:n<1000) (hE:∀ k,k<n→(E k).ok 8) :
    FnL Tryz.prog 46 [pt bk] (⟨bk,68,bkC m a (.slice (some ⟨g,0,none⟩) n cc) c d⟩::⟨g,150,(List.range n).flatMap (fun k=>(E k).row)++r⟩::(List.range n).flatMap (fun k=>(E k).L 97)) Tr
      (fun v N=>v=.tuple #[]∧N=⟨bk,68,bkC m a (.slice (some ⟨g,0,none⟩) n cc) c d⟩::⟨g,150,(List.range n).flatMap (fun k=>(E k).row)++r⟩::(List.range n).flatMap (fun k=>((E k).fill mkC).L 97)):=by
  refine FnL.enter Tryz.func46 rfl rfl rfl ?_
  intro w hw
  generalize List.map Ent.g _=gs
  repeat (first|refine Ta ?_|(refine Tm ?_;intro _)|refine Tc ?_|exact Tz)
  refine WC.loopI (σ:=Nat) (fun i=>i≤n) (fun i=>[(0,pt bk),(2,.int .i64 (i:Int))]) (fun i=>⟨bk,68,bkC m a (.slice (some ⟨g,0,none⟩) n cc) c d⟩::⟨g,150,(List.range n).flatMap (fun k=>(E k).row)++r⟩::stL (fun k=>((E k).fill mkC).L 97) (fun k=>(E k).L 97) n i) (fun i=>n - i) 0 (fun i hi=>?_) (Nat.zero_le _) (hl:=by rw[stL_zero];exact Lle.same)
  try dsimp only at hi ⊢
  by_cases hlt:i<n
  · have hok:=hE i hlt
    have hrow:cut ((List.range n).flatMap (fun k=>(E k).row)++r) (0+i*3) 3=(E i).row:=by rw[Nat.zero_add];exact cut_st0 hlt (fun k=>rfl)
    have hp0:=stL_perm (A:=(fun k=>((E k).fill mkC).L 97)) (B:=(fun k=>(E k).L 97)) hlt
    have hp1:=stL_perm1 (A:=(fun k=>((E k).fill mkC).L 97)) (B:=(fun k=>(E k).L 97)) hlt
    have hadd2:IntKind.i64.wrap ((i:Int)+1)=((i+1:Nat):Int):=i64_in' (by omega) (by omega) (by omega)
    refine WC.permL ((hp0.cons _).cons _) ?_
    generalize hL1:stL (fun k=>((E k).fill mkC).L 97) (fun k=>(E k).L 97) n (i+1)=L1 at *
    generalize stL (fun k=>((E k).fill mkC).L 97) (fun k=>(E k).L 97) n i=L0 at *
    generalize stR (fun k=>((E k).fill mkC).L 97) (fun k=>(E k).L 97) n i=R at *
    generalize (List.range n).flatMap (fun k=>(E k).row)++r=rows at *
    try dsimp only at hp0 hp1
    generalize E i=e at *
    clear hp0 hE
    obtain⟨eb,en,ec,ecs,em⟩:=e
    cases eb with
    | none =>
      have h0:en=0:=(hok.nil rfl).1
      subst h0
      have hrow:cut rows (0+i*3) 3=[.slice none 0 ec,.slice none 0 0,.int .i64 (em:Int)]:=hrow
      rw[show HE.L 97 ⟨none,0,ec,ecs,em⟩=[] from rfl,List.nil_append]
      repeat (first|refine Ta ?_|(refine Tm ?_;intro _)|refine Tc ?_|exact Tz)
      refine WC.dT rfl (by omega) ?_
      repeat (first|refine WC.loopU 1 ?_|refine Ta ?_|(refine Tm ?_;intro _)|refine WO.does (does_indexSlice (o':=0+i*3) rfl rfl hlt rfl) ?_|refine WO.does (a_load (vs:=[.slice none 0 ec,.slice none 0 0,.int .i64 (em:Int)]) (hc:=hrow)) ?_|refine WO.does (does_add rfl rfl hadd2) ?_|refine Tc ?_|exact Tz)
      refine WX.dropL (.cons _ (.refl _)) (WX.permL ((hp1.symm.cons _).cons _) ?_)
      subst hL1
      exact WX.metI (i+1) (hl:=Lle.same) (hs:=⟨by show i+1≤n;omega,by show n - (i+1)<n - i;omega⟩)
    | some eb =>
      have hle:en≤ec:=hok.le
      have hmost:en≤100:=hok.most
      have hlen:ecs.length=ec*8:=hok.len
      have hem:em<1000:=hok.mark
      have hmk:=k_markKey em hem
      have hrow:cut rows (0+i*3) 3=[.slice (some ⟨eb,0,none⟩) en ec,.slice none 0 0,.int .i64 (em:Int)]:=hrow
      rw[show HE.L 97 ⟨some eb,en,ec,ecs,em⟩=[⟨eb,97,ecs⟩] from rfl,List.singleton_append]
      repeat (first|refine Ta ?_|(refine Tm ?_;intro _)|refine Tc ?_|exact Tz)
      refine WC.dT rfl (by omega) ?_
      repeat (first|refine Ta ?_|(refine Tm ?_;intro _)|refine WO.does (does_indexSlice (o':=0+i*3) rfl rfl hlt rfl) ?_|refine WO.does (a_load (vs:=[.slice (some ⟨eb,0,none⟩) en ec,.slice none 0 0,.int .i64 (em:Int)]) (hc:=hrow)) ?_|refine Tc ?_|exact Tz)
      rename_i gH
      refine WC.loopI (σ:=Nat) (fun k=>k≤en) (fun k=>[(0,pt bk),(2,.int .i64 (i:Int)),(3,pt gH),(4,.int .i64 (k:Int))]) (fun k=>⟨gH,150,[.slice (some ⟨eb,0,none⟩) en ec,.slice none 0 0,.int .i64 (em:Int)]⟩::⟨bk,68,bkC m a (.slice (some ⟨g,0,none⟩) n cc) c d⟩::⟨g,150,rows⟩::⟨eb,97,mkz k (mkC em)++ecs.drop (k*8)⟩::R) (fun k=>en - k) 0 (fun k hk=>?_) (Nat.zero_le _) (hl:=by rw[Nat.zero_mul];exact Lle.same)
      try dsimp only at hk ⊢
      by_cases hkn:k<en
      · have hadd3:IntKind.i64.wrap ((k:Int)+1)=((k+1:Nat):Int):=i64_in' (by omega) (by omega) (by omega)
        have hov:over (mkz k (mkC em)++ecs.drop (k*8)) (0+k*8) (mkC em)=mkz (k+1) (mkC em)++ecs.drop ((k+1)*8):=by rw[Nat.zero_add];exact over_mark
        have hbl:Nat.ble (0+k*8+8) (mkz k (mkC em)++ecs.drop (k*8)).length=true:=by
          rw[Nat.ble_eq,List.length_append,mkz_length,List.length_drop,hlen,Nat.zero_add]
          show k*8+8≤k*8+(ec*8 - k*8)
          omega
        repeat (first|refine Ta ?_|(refine Tm ?_;intro _)|refine Tc ?_|exact Tz)
        refine WC.dT rfl (by omega) ?_
        repeat (first|refine Ta ?_|(refine Tm ?_;intro _)|refine Tc ?_|exact Tz)
        refine WC.adraw 7 (k:=?_)
        iterate 7 (first|refine Da ?_|refine DQ.acall (hc:=hmk) (k:=?_)|refine DQ.does (fun s _=>does_indexSlice (o':=0+k*8) rfl rfl hkn rfl) Dp.const ?_|refine Dc ?_)
        refine DQ.anil (k:=?_)
        intro sx _
        refine WO.stores (a_store (vs:=mkC em) (cs':=mkz (k+1) (mkC em)++ecs.drop ((k+1)*8)) (hc:=hov) (hle:=hbl)) ?_
        repeat (first|refine Ta ?_|(refine Tm ?_;intro _)|refine WO.does (does_add rfl rfl hadd3) ?_|refine Tc ?_|exact Tz)
        exact WX.metI (k+1) (hs:=⟨by show k+1≤en;omega,by show en - (k+1)<en - k;omega⟩) (hl:=Lle.same)
      · have hk2:k=en:=by omega
        subst hk2
        repeat (first|refine Ta ?_|(refine Tm ?_;intro _)|refine Tc ?_|exact Tz)
        refine WC.dF rfl (by omega) ?_
        repeat (first|refine Ta ?_|(refine Tm ?_;intro _)|refine WO.does (does_add rfl rfl hadd2) ?_|refine Tc ?_|exact Tz)
        refine WX.dropL (.cons _ (.refl _)) (WX.permL ((hp1.symm.cons _).cons _) ?_)
        subst hL1
        exact WX.metI (i+1) (hl:=Lle.same) (hs:=⟨by show i+1≤n;omega,by show n - (i+1)<n - i;omega⟩)
  · have hi2:i=n:=by omega
    subst hi2
    repeat (first|refine Ta ?_|(refine Tm ?_;intro _)|refine Tc ?_|exact Tz)
    refine WC.dF rfl (by omega) ?_
    repeat (first|refine Ta ?_|(refine Tm ?_;intro _)|refine Tc ?_|exact Tz)
    exact WX.retP_ofN (resP0 rfl) Lle.same ⟨rfl,by rw[stL_full]⟩
end Sx
end Go.Proofs.YtiiacjladnljhaaGreatDoor
namespace Go.Proofs.YtiiacjladnljhaaGreatDoor
open Go Go.RowKit Go.BigFrame
namespace Sx
attribute [local irreducible] wd DQ DQS WO WC WX
abbrev heG (e:HE) (s:GS):List Value:=[e.v,gsV e s 40,.int .i64 (e.m:Int)]
set_option maxHeartbeats 2000000 in
theorem k_growNum (m:Nat) (b c d:Value) (bk g cc n:Nat) (E:Nat→HE) (r:List Value) (hn:n<1000) (hE:∀ k,k<n→(E k).ok 4) :
    FnL Tryz.prog 60 [pt bk] (⟨bk,68,bkC m (.slice (some ⟨g,0,none⟩) n cc) b c d⟩::⟨g,124,(List.range n).flatMap (fun k=>(E k).row)++r⟩::(List.range n).flatMap (fun k=>gsL 24 (numC (E k).m) (E k) .A 0)) Tr
      (fun v N=>v=.tuple #[]∧∃ st:Nat→GS,(∀ k,k<n→gsOk (numC (E k).m) (E k) (st k) 40)∧N=⟨bk,68,bkC m (.slice (some ⟨g,0,none⟩) n cc) b c d⟩::⟨g,124,(List.range n).flatMap (fun k=>heG (E k) (st k))++r⟩::(List.range n).flatMap (fun k=>gsL 24 (numC (E k).m) (E k) (st k) 40)):=by
  refine FnL.enter Tryz.func60 rfl rfl rfl ?_
  intro w hw
  generalize List.map Ent.g _=gs
  repeat (first|refine Ta ?_|(refine Tm ?_;intro _)|refine Tc ?_|exact Tz)
  refine WC.loopI (σ:=Nat × (Nat→GS)) (fun s=>s.1≤n∧∀ k,k<s.1→gsOk (numC (E k).m) (E k) (s.2 k) 40) (fun s=>[(0,pt bk),(2,.int .i64 (s.1:Int))]) (fun s=>⟨bk,68,bkC m (.slice (some ⟨g,0,none⟩) n cc) b c d⟩::⟨g,124,stL (fun k=>heG (E k) (s.2 k)) (fun k=>(E k).row) n s.1++r⟩::stL (fun k=>gsL 24 (numC (E k).m) (E k) (s.2 k) 40) (fun k=>gsL 24 (numC (E k).m) (E k) .A 0) n s.1) (fun s=>n - s.1) (0,fun _=>.A) (fun s hi=>?_) ⟨Nat.zero_le _,fun k hk=>absurd hk (Nat.not_lt_zero _)⟩ (hl:=by rw[stL_zero,stL_zero];exact Lle.same)
  obtain⟨i,st⟩:=s
  try dsimp only at hi ⊢
  obtain⟨hi,hst⟩:=hi
  by_cases hlt:i<n
  · have hok:=hE i hlt
    have hrow:cut (stL (fun k=>heG (E k) (st k)) (fun k=>(E k).row) n i++r) (0+i*3) 3=[(E i).v,.slice none 0 0,.int .i64 ((E i).m:Int)]:=by rw[Nat.zero_add];exact cut_st hlt (fun k=>rfl) (fun k=>rfl)
    have hp0:=stL_perm (A:=(fun k=>gsL 24 (numC (E k).m) (E k) (st k) 40)) (B:=(fun k=>gsL 24 (numC (E k).m) (E k) .A 0)) hlt
    have hadd2:IntKind.i64.wrap ((i:Int)+1)=((i+1:Nat):Int):=i64_in' (by omega) (by omega) (by omega)
    refine WC.permL ((hp0.cons _).cons _) ?_
    have hl3:(stL (fun k=>heG (E k) (st k)) (fun k=>(E k).row) n i++r).length=n*3+r.length:=by rw[List.length_append,stL_len3 (fun k=>rfl) (fun k=>rfl)]
    generalize hrs:stL (fun k=>heG (E k) (st k)) (fun k=>(E k).row) n i++r=rows at *
    clear hp0
    have hem:(E i).m<1000:=hok.mark
    have hA0:gsOk (numC (E i).m) (E i) .A 0:=hok.le
    generalize hR:stR (fun k=>gsL 24 (numC (E k).m) (E k) (st k) 40) (fun k=>gsL 24 (numC (E k).m) (E k) .A 0) n i=R
    try dsimp only
    generalize he:E i=e at *
    have hmk:=k_markNum e.m hem
    repeat (first|refine Ta ?_|(refine Tm ?_;intro _)|refine Tc ?_|exact Tz)
    refine WC.dT rfl (by omega) ?_
    repeat (first|refine Ta ?_|(refine Tm ?_;intro _)|refine WO.does (does_indexSlice (o':=0+i*3) rfl rfl hlt rfl) ?_|refine WO.does (a_load (vs:=[e.v,.slice none 0 0,.int .i64 (e.m:Int)]) (hc:=hrow)) ?_|refine Tc ?_|exact Tz)
    rename_i gH
    refine WC.loopI (σ:=Nat × GS) (fun s=>s.1≤40∧gsOk (numC e.m) e s.2 s.1) (fun s=>[(0,pt bk),(2,.int .i64 (i:Int)),(3,pt gH),(4,gsV e s.2 s.1),(5,.int .i64 (s.1:Int))]) (fun s=>⟨gH,124,[e.v,.slice none 0 0,.int .i64 (e.m:Int)]⟩::⟨bk,68,bkC m (.slice (some ⟨g,0,none⟩) n cc) b c d⟩::⟨g,124,rows⟩::(gsL 24 (numC e.m) e s.2 s.1++R)) (fun s=>40 - s.1) (0,.A) (fun s hk=>?_) ⟨Nat.zero_le _,hA0⟩ (hl:=Lle.same)
    obtain⟨k,s⟩:=s
    try dsimp only at hk ⊢
    obtain⟨hk,hs⟩:=hk
    by_cases hkn:k<40
    · have hadd3:IntKind.i64.wrap ((k:Int)+1)=((k+1:Nat):Int):=i64_in' (by omega) (by omega) (by omega)
      repeat (first|refine Ta ?_|(refine Tm ?_;intro _)|refine Tc ?_|exact Tz)
      refine WC.dT rfl (by omega) ?_
      repeat (first|refine Ta ?_|(refine Tm ?_;intro _)|refine WO.acall (hc:=hmk) (k:=?_)|(refine WO.makes (makes_build (cs:=numC e.m) rfl (by decide) rfl) ?_;intro gT)|refine Tc ?_|exact Tz)
      refine WO.appG (e:=e) (s:=s) (j:=k) (z:=numC 0) (M:=numC e.m) (T:=24) rfl rfl rfl rfl rfl (perm3.cons _) hs hok rfl hkn (by decide) (by decide) (by decide) (fun s' hs'=>?_)
      repeat (first|refine Ta ?_|(refine Tm ?_;intro _)|refine WO.does (does_add rfl rfl hadd3) ?_|refine Tc ?_|exact Tz)
      refine WX.permL perm3.symm ?_
      exact WX.metI (k+1,s') (hs:=⟨⟨by show k+1≤40;omega,hs'⟩,by show 40 - (k+1)<40 - k;omega⟩) (hl:=Lle.same)
    · have hk2:k=40:=by omega
      subst hk2
      have hov:over rows (i*3+1) [gsV e s 40]=stL (fun k=>heG (E k) (if k=i then s else st k)) (fun k=>(E k).row) n (i+1)++r:=by
        rw[← hrs,stL_congr (A':=fun k=>heG (E k) (if k=i then s else st k)) (fun k hk=>by rw[if_neg (by omega)])]
        exact over_st (a:=(E i).v) (u:=.slice none 0 0) (c:=.int .i64 ((E i).m:Int)) hlt (fun k=>rfl) (by rw[if_pos rfl,he]) rfl
      have hbl:Nat.ble (i*3+1+1) rows.length=true:=by rw[hl3,Nat.ble_eq];omega
      have hp1:(stL (fun k=>gsL 24 (numC (E k).m) (E k) (if k=i then s else st k) 40) (fun k=>gsL 24 (numC (E k).m) (E k) .A 0) n (i+1)).Perm (gsL 24 (numC e.m) e s 40++R):=by
        have:=stL_perm1 (A:=fun k=>gsL 24 (numC (E k).m) (E k) (if k=i then s else st k) 40) (B:=(fun k=>gsL 24 (numC (E k).m) (E k) .A 0)) hlt
        rw[stR_congr (A':=(fun k=>gsL 24 (numC (E k).m) (E k) (st k) 40)) (fun k hk=>by rw[if_neg (by omega)]),hR,if_pos rfl,he] at this
        exact this
      repeat (first|refine Ta ?_|(refine Tm ?_;intro _)|refine WO.does (does_indexSlice (o':=0+i*3) rfl rfl hlt rfl) ?_|refine Tc ?_|exact Tz)
      refine WO.stores (a_store (vs:=[gsV e s 40]) (cs':=stL (fun k=>heG (E k) (if k=i then s else st k)) (fun k=>(E k).row) n (i+1)++r) (hm:=.there (.there .here)) (hr:=.there (.there .here)) (hc:=hov) (hle:=hbl) (h1:=by cases s<;>rfl) (hv:=by cases s<;>rfl)) ?_
      repeat (first|refine Ta ?_|(refine Tm ?_;intro _)|refine WO.does (does_add rfl rfl hadd2) ?_|refine Tc ?_|exact Tz)
      refine WX.dropL (.cons _ (.refl _)) (WX.permL ((hp1.symm.cons _).cons _) ?_)
      exact WX.metI (i+1,fun k=>if k=i then s else st k) (hl:=Lle.same) (hs:=⟨⟨by show i+1≤n;omega,fun k hk=>by
        by_cases hki:k=i
        · subst hki;show gsOk _ _ (if k=k then s else st k) 40;rw[if_pos rfl,he];exact hs
        · show gsOk _ _ (if k=i then s else st k) 40;rw[if_neg hki];exact hst k (by have:k<i+1:=hk;omega)⟩,by show n - (i+1)<n - i;omega⟩)
  · have hi2:i=n:=by omega
    subst hi2
    repeat (first|refine Ta ?_|(refine Tm ?_;intro _)|refine Tc ?_|exact Tz)
    refine WC.dF rfl (by omega) ?_
    repeat (first|refine Ta ?_|(refine Tm ?_;intro _)|refine Tc ?_|exact Tz)
    exact WX.retP_ofN (resP0 rfl) Lle.same ⟨rfl,st,hst,by rw[stL_full,stL_full]⟩
set_option maxHeartbeats 2000000 in
theorem k_growKey (m:Nat) (a c d:Value) (bk g cc n:Nat) (E:Nat→HE) (r:List Value) (hn:n<1000) (hE:∀ k,k<n→(E k).ok 8) :
    FnL Tryz.prog 63 [pt bk] (⟨bk,68,bkC m a (.slice (some ⟨g,0,none⟩) n cc) c d⟩::⟨g,150,(List.range n).flatMap (fun k=>(E k).row)++r⟩::(List.range n).flatMap (fun k=>gsL 97 (mkC (E k).m) (E k) .A 0)) Tr
      (fun v N=>v=.tuple #[]∧∃ st:Nat→GS,(∀ k,k<n→gsOk (mkC (E k).m) (E k) (st k) 40)∧N=⟨bk,68,bkC m a (.slice (some ⟨g,0,none⟩) n cc) c d⟩::⟨g,150,(List.range n).flatMap (fun k=>heG (E k) (st k))++r⟩::(List.range n).flatMap (fun k=>gsL 97 (mkC (E k).m) (E k) (st k) 40)):=by
  refine FnL.enter Tryz.func63 rfl rfl rfl ?_
  intro w hw
  generalize List.map Ent.g _=gs
  repeat (first|refine Ta ?_|(refine Tm ?_;intro _)|refine Tc ?_|exact Tz)
  refine WC.loopI (σ:=Nat × (Nat→GS)) (fun s=>s.1≤n∧∀ k,k<s.1→gsOk (mkC (E k).m) (E k) (s.2 k) 40) (fun s=>[(0,pt bk),(2,.int .i64 (s.1:Int))]) (fun s=>⟨bk,68,bkC m a (.slice (some ⟨g,0,none⟩) n cc) c d⟩::⟨g,150,stL (fun k=>heG (E k) (s.2 k)) (fun k=>(E k).row) n s.1++r⟩::stL (fun k=>gsL 97 (mkC (E k).m) (E k) (s.2 k) 40) (fun k=>gsL 97 (mkC (E k).m) (E k) .A 0) n s.1) (fun s=>n - s.1) (0,fun _=>.A) (fun s hi=>?_) ⟨Nat.zero_le _,fun k hk=>absurd hk (Nat.not_lt_zero _)⟩ (hl:=by rw[stL_zero,stL_zero];exact Lle.same)
  obtain⟨i,st⟩:=s
  try dsimp only at hi ⊢
  obtain⟨hi,hst⟩:=hi
  by_cases hlt:i<n
  · have hok:=hE i hlt
    have hrow:cut (stL (fun k=>heG (E k) (st k)) (fun k=>(E k).row) n i++r) (0+i*3) 3=[(E i).v,.slice none 0 0,.int .i64 ((E i).m:Int)]:=by rw[Nat.zero_add];exact cut_st hlt (fun k=>rfl) (fun k=>rfl)
    have hp0:=stL_perm (A:=(fun k=>gsL 97 (mkC (E k).m) (E k) (st k) 40)) (B:=(fun k=>gsL 97 (mkC (E k).m) (E k) .A 0)) hlt
    have hadd2:IntKind.i64.wrap ((i:Int)+1)=((i+1:Nat):Int):=i64_in' (by omega) (by omega) (by omega)
    refine WC.permL ((hp0.cons _).cons _) ?_
    have hl3:(stL (fun k=>heG (E k) (st k)) (fun k=>(E k).row) n i++r).length=n*3+r.length:=by rw[List.length_append,stL_len3 (fun k=>rfl) (fun k=>rfl)]
    generalize hrs:stL (fun k=>heG (E k) (st k)) (fun k=>(E k).row) n i++r=rows at *
    clear hp0
    have hem:(E i).m<1000:=hok.mark
    have hA0:gsOk (mkC (E i).m) (E i) .A 0:=hok.le
    generalize hR:stR (fun k=>gsL 97 (mkC (E k).m) (E k) (st k) 40) (fun k=>gsL 97 (mkC (E k).m) (E k) .A 0) n i=R
    try dsimp only
    generalize he:E i=e at *
    have hmk:=k_markKey e.m hem
    repeat (first|refine Ta ?_|(refine Tm ?_;intro _)|refine Tc ?_|exact Tz)
    refine WC.dT rfl (by omega) ?_
    repeat (first|refine Ta ?_|(refine Tm ?_;intro _)|refine WO.does (does_indexSlice (o':=0+i*3) rfl rfl hlt rfl) ?_|refine WO.does (a_load (vs:=[e.v,.slice none 0 0,.int .i64 (e.m:Int)]) (hc:=hrow)) ?_|refine Tc ?_|exact Tz)
    rename_i gH
    refine WC.loopI (σ:=Nat × GS) (fun s=>s.1≤40∧gsOk (mkC e.m) e s.2 s.1) (fun s=>[(0,pt bk),(2,.int .i64 (i:Int)),(3,pt gH),(4,gsV e s.2 s.1),(5,.int .i64 (s.1:Int))]) (fun s=>⟨gH,150,[e.v,.slice none 0 0,.int .i64 (e.m:Int)]⟩::⟨bk,68,bkC m a (.slice (some ⟨g,0,none⟩) n cc) c d⟩::⟨g,150,rows⟩::(gsL 97 (mkC e.m) e s.2 s.1++R)) (fun s=>40 - s.1) (0,.A) (fun s hk=>?_) ⟨Nat.zero_le _,hA0⟩ (hl:=Lle.same)
    obtain⟨k,s⟩:=s
    try dsimp only at hk ⊢
    obtain⟨hk,hs⟩:=hk
    by_cases hkn:k<40
    · have hadd3:IntKind.i64.wrap ((k:Int)+1)=((k+1:Nat):Int):=i64_in' (by omega) (by omega) (by omega)
      repeat (first|refine Ta ?_|(refine Tm ?_;intro _)|refine Tc ?_|exact Tz)
      refine WC.dT rfl (by omega) ?_
      repeat (first|refine Ta ?_|(refine Tm ?_;intro _)|refine WO.acall (hc:=hmk) (k:=?_)|(refine WO.makes (makes_build (cs:=mkC e.m) rfl (by decide) rfl) ?_;intro gT)|refine Tc ?_|exact Tz)
      refine WO.appG (e:=e) (s:=s) (j:=k) (z:=twoC 0 0) (M:=mkC e.m) (T:=97) rfl rfl rfl rfl rfl (perm3.cons _) hs hok rfl hkn (by decide) (by decide) (by decide) (fun s' hs'=>?_)
      repeat (first|refine Ta ?_|(refine Tm ?_;intro _)|refine WO.does (does_add rfl rfl hadd3) ?_|refine Tc ?_|exact Tz)
      refine WX.permL perm3.symm ?_
      exact WX.metI (k+1,s') (hs:=⟨⟨by show k+1≤40;omega,hs'⟩,by show 40 - (k+1)<40 - k;omega⟩) (hl:=Lle.same)
    · have hk2:k=40:=by omega
      subst hk2
      have hov:over rows (i*3+1) [gsV e s 40]=stL (fun k=>heG (E k) (if k=i then s else st k)) (fun k=>(E k).row) n (i+1)++r:=by
        rw[← hrs,stL_congr (A':=fun k=>heG (E k) (if k=i then s else st k)) (fun k hk=>by rw[if_neg (by omega)])]
        exact over_st (a:=(E i).v) (u:=.slice none 0 0) (c:=.int .i64 ((E i).m:Int)) hlt (fun k=>rfl) (by rw[if_pos rfl,he]) rfl
      have hbl:Nat.ble (i*3+1+1) rows.length=true:=by rw[hl3,Nat.ble_eq];omega
      have hp1:(stL (fun k=>gsL 97 (mkC (E k).m) (E k) (if k=i then s else st k) 40) (fun k=>gsL 97 (mkC (E k).m) (E k) .A 0) n (i+1)).Perm (gsL 97 (mkC e.m) e s 40++R):=by
        have:=stL_perm1 (A:=fun k=>gsL 97 (mkC (E k).m) (E k) (if k=i then s else st k) 40) (B:=(fun k=>gsL 97 (mkC (E k).m) (E k) .A 0)) hlt
        rw[stR_congr (A':=(fun k=>gsL 97 (mkC (E k).m) (E k) (st k) 40)) (fun k hk=>by rw[if_neg (by omega)]),hR,if_pos rfl,he] at this
        exact this
      repeat (first|refine Ta ?_|(refine Tm ?_;intro _)|refine WO.does (does_indexSlice (o':=0+i*3) rfl rfl hlt rfl) ?_|refine Tc ?_|exact Tz)
      refine WO.stores (a_store (vs:=[gsV e s 40]) (cs':=stL (fun k=>heG (E k) (if k=i then s else st k)) (fun k=>(E k).row) n (i+1)++r) (hm:=.there (.there .here)) (hr:=.there (.there .here)) (hc:=hov) (hle:=hbl) (h1:=by cases s<;>rfl) (hv:=by cases s<;>rfl)) ?_
      repeat (first|refine Ta ?_|(refine Tm ?_;intro _)|refine WO.does (does_add rfl rfl hadd2) ?_|refine Tc ?_|exact Tz)
      refine WX.dropL (.cons _ (.refl _)) (WX.permL ((hp1.symm.cons _).cons _) ?_)
      exact WX.metI (i+1,fun k=>if k=i then s else st k) (hl:=Lle.same) (hs:=⟨⟨by show i+1≤n;omega,fun k hk=>by
        by_cases hki:k=i
        · subst hki;show gsOk _ _ (if k=k then s else st k) 40;rw[if_pos rfl,he];exact hs
        · show gsOk _ _ (if k=i then s else st k) 40;rw[if_neg hki];exact hst k (by have:k<i+1:=hk;omega)⟩,by show n - (i+1)<n - i;omega⟩)
  · have hi2:i=n:=by omega
    subst hi2
    repeat (first|refine Ta ?_|(refine Tm ?_;intro _)|refine Tc ?_|exact Tz)
    refine WC.dF rfl (by omega) ?_
    repeat (first|refine Ta ?_|(refine Tm ?_;intro _)|refine Tc ?_|exact Tz)
    exact WX.retP_ofN (resP0 rfl) Lle.same ⟨rfl,st,hst,by rw[stL_full,stL_full]⟩
end Sx
end Go.Proofs.YtiiacjladnljhaaGreatDoor
