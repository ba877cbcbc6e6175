/- Part 46 of the proof: BkG -/
import Derived.Test.YtmhligfnchegdaaGreatDoorM45
set_option linter.unusedSimpArgs false
set_option linter.unusedVariables false
namespace Go.Proofs.YtmhligfnchegdaaGreatDoor
open Go Go.RowKit Go.BigFrame
namespace Sx
attribute [local irreducible] wd DQ DQS WO WC WX
abbrev heG (e:HE) (s:GS):List Value:=[e.v,gsV e s 40,.int .i64 (e.m:Int)]
set_option maxHeartbeats 2000000 in
theorem k_growNum (m:Nat) (b c d:Value) (bk g cc n:Nat) (E:Nat→HE) (r:List Value) (hn:n<1000) (hE:∀ k,k<n→(E k).ok 4) :
    FnL Tryz.prog 74 [pt bk] (⟨bk,66,bkC m (.slice (some ⟨g,0,none⟩) n cc) b c d⟩::⟨g,138,(List.range n).flatMap (fun k=>(E k).row)++r⟩::(List.range n).flatMap (fun k=>gsL 24 (numC (E k).m) (E k) .A 0)) Tr
      (fun v N=>v=.tuple #[]∧∃ st:Nat→GS,(∀ k,k<n→gsOk (numC (E k).m) (E k) (st k) 40)∧N=⟨bk,66,bkC m (.slice (some ⟨g,0,none⟩) n cc) b c d⟩::⟨g,138,(List.range n).flatMap (fun k=>heG (E k) (st k))++r⟩::(List.range n).flatMap (fun k=>gsL 24 (numC (E k).m) (E k) (st k) 40)):=by
  refine FnL.enter Tryz.func74 rfl rfl rfl ?_
  intro w hw
  generalize List.map Ent.g _=gs
  repeat (first|refine Ta ?_|(refine Tm ?_;intro _)|refine Tc ?_|exact Tz)
  refine WC.loopI (σ:=Nat × (Nat→GS)) (fun s=>s.1≤n∧∀ k,k<s.1→gsOk (numC (E k).m) (E k) (s.2 k) 40) (fun s=>[(0,pt bk),(2,.int .i64 (s.1:Int))]) (fun s=>⟨bk,66,bkC m (.slice (some ⟨g,0,none⟩) n cc) b c d⟩::⟨g,138,stL (fun k=>heG (E k) (s.2 k)) (fun k=>(E k).row) n s.1++r⟩::stL (fun k=>gsL 24 (numC (E k).m) (E k) (s.2 k) 40) (fun k=>gsL 24 (numC (E k).m) (E k) .A 0) n s.1) (fun s=>n - s.1) (0,fun _=>.A) (fun s hi=>?_) ⟨Nat.zero_le _,fun k hk=>absurd hk (Nat.not_lt_zero _)⟩ (hl:=by rw[stL_zero,stL_zero];exact Lle.same)
  obtain⟨i,st⟩:=s
  try dsimp only at hi ⊢
  obtain⟨hi,hst⟩:=hi
  by_cases hlt:i<n
  · have hok:=hE i hlt
    have hrow:cut (stL (fun k=>heG (E k) (st k)) (fun k=>(E k).row) n i++r) (0+i*3) 3=[(E i).v,.slice none 0 0,.int .i64 ((E i).m:Int)]:=by rw[Nat.zero_add];exact cut_st hlt (fun k=>rfl) (fun k=>rfl)
    have hp0:=stL_perm (A:=(fun k=>gsL 24 (numC (E k).m) (E k) (st k) 40)) (B:=(fun k=>gsL 24 (numC (E k).m) (E k) .A 0)) hlt
    have hadd2:IntKind.i64.wrap ((i:Int)+1)=((i+1:Nat):Int):=i64_in' (by omega) (by omega) (by omega)
    refine WC.permL ((hp0.cons _).cons _) ?_
    have hl3:(stL (fun k=>heG (E k) (st k)) (fun k=>(E k).row) n i++r).length=n*3+r.length:=by rw[List.length_append,stL_len3 (fun k=>rfl) (fun k=>rfl)]
    generalize hrs:stL (fun k=>heG (E k) (st k)) (fun k=>(E k).row) n i++r=rows at *
    clear hp0
    have hem:(E i).m<1000:=hok.mark
    have hA0:gsOk (numC (E i).m) (E i) .A 0:=hok.le
    generalize hR:stR (fun k=>gsL 24 (numC (E k).m) (E k) (st k) 40) (fun k=>gsL 24 (numC (E k).m) (E k) .A 0) n i=R
    try dsimp only
    generalize he:E i=e at *
    have hmk:=k_markNum e.m hem
    repeat (first|refine Ta ?_|(refine Tm ?_;intro _)|refine Tc ?_|exact Tz)
    refine WC.dT rfl (by omega) ?_
    repeat (first|refine Ta ?_|(refine Tm ?_;intro _)|refine WO.does (does_indexSlice (o':=0+i*3) rfl rfl hlt rfl) ?_|refine WO.does (a_load (vs:=[e.v,.slice none 0 0,.int .i64 (e.m:Int)]) (hc:=hrow)) ?_|refine Tc ?_|exact Tz)
    rename_i gH
    refine WC.loopI (σ:=Nat × GS) (fun s=>s.1≤40∧gsOk (numC e.m) e s.2 s.1) (fun s=>[(0,pt bk),(2,.int .i64 (i:Int)),(3,pt gH),(4,gsV e s.2 s.1),(5,.int .i64 (s.1:Int))]) (fun s=>⟨gH,138,[e.v,.slice none 0 0,.int .i64 (e.m:Int)]⟩::⟨bk,66,bkC m (.slice (some ⟨g,0,none⟩) n cc) b c d⟩::⟨g,138,rows⟩::(gsL 24 (numC e.m) e s.2 s.1++R)) (fun s=>40 - s.1) (0,.A) (fun s hk=>?_) ⟨Nat.zero_le _,hA0⟩ (hl:=Lle.same)
    obtain⟨k,s⟩:=s
    try dsimp only at hk ⊢
    obtain⟨hk,hs⟩:=hk
    by_cases hkn:k<40
    · have hadd3:IntKind.i64.wrap ((k:Int)+1)=((k+1:Nat):Int):=i64_in' (by omega) (by omega) (by omega)
      repeat (first|refine Ta ?_|(refine Tm ?_;intro _)|refine Tc ?_|exact Tz)
      refine WC.dT rfl (by omega) ?_
      repeat (first|refine Ta ?_|(refine Tm ?_;intro _)|refine WO.acall (hc:=hmk) (k:=?_)|(refine WO.makes (makes_build (cs:=numC e.m) rfl (by decide) rfl) ?_;intro gT)|refine Tc ?_|exact Tz)
      refine WO.appG (e:=e) (s:=s) (j:=k) (z:=numC 0) (M:=numC e.m) (T:=24) rfl rfl rfl rfl rfl (perm3.cons _) hs hok rfl hkn (by decide) (by decide) (by decide) (fun s' hs'=>?_)
      repeat (first|refine Ta ?_|(refine Tm ?_;intro _)|refine WO.does (does_add rfl rfl hadd3) ?_|refine Tc ?_|exact Tz)
      refine WX.permL perm3.symm ?_
      exact WX.metI (k+1,s') (hs:=⟨⟨by show k+1≤40;omega,hs'⟩,by show 40 - (k+1)<40 - k;omega⟩) (hl:=Lle.same)
    · have hk2:k=40:=by omega
      subst hk2
      have hov:over rows (i*3+1) [gsV e s 40]=stL (fun k=>heG (E k) (if k=i then s else st k)) (fun k=>(E k).row) n (i+1)++r:=by
        rw[← hrs,stL_congr (A':=fun k=>heG (E k) (if k=i then s else st k)) (fun k hk=>by rw[if_neg (by omega)])]
        exact over_st (a:=(E i).v) (u:=.slice none 0 0) (c:=.int .i64 ((E i).m:Int)) hlt (fun k=>rfl) (by rw[if_pos rfl,he]) rfl
      have hbl:Nat.ble (i*3+1+1) rows.length=true:=by rw[hl3,Nat.ble_eq];omega
      have hp1:(stL (fun k=>gsL 24 (numC (E k).m) (E k) (if k=i then s else st k) 40) (fun k=>gsL 24 (numC (E k).m) (E k) .A 0) n (i+1)).Perm (gsL 24 (numC e.m) e s 40++R):=by
        have:=stL_perm1 (A:=fun k=>gsL 24 (numC (E k).m) (E k) (if k=i then s else st k) 40) (B:=(fun k=>gsL 24 (numC (E k).m) (E k) .A 0)) hlt
        rw[stR_congr (A':=(fun k=>gsL 24 (numC (E k).m) (E k) (st k) 40)) (fun k hk=>by rw[if_neg (by omega)]),hR,if_pos rfl,he] at this
        exact this
      repeat (first|refine Ta ?_|(refine Tm ?_;intro _)|refine WO.does (does_indexSlice (o':=0+i*3) rfl rfl hlt rfl) ?_|refine Tc ?_|exact Tz)
      refine WO.stores (a_store (vs:=[gsV e s 40]) (cs':=stL (fun k=>heG (E k) (if k=i then s else st k)) (fun k=>(E k).row) n (i+1)++r) (hm:=.there (.there .here)) (hr:=.there (.there .here)) (hc:=hov) (hle:=hbl) (h1:=by cases s<;>rfl) (hv:=by cases s<;>rfl)) ?_
      repeat (first|refine Ta ?_|(refine Tm ?_;intro _)|refine WO.does (does_add rfl rfl hadd2) ?_|refine Tc ?_|exact Tz)
      refine WX.dropL (.cons _ (.refl _)) (WX.permL ((hp1.symm.cons _).cons _) ?_)
      exact WX.metI (i+1,fun k=>if k=i then s else st k) (hl:=Lle.same) (hs:=⟨⟨by show i+1≤n;omega,fun k hk=>by
        by_cases hki:k=i
        · subst hki;show gsOk _ _ (if k=k then s else st k) 40;rw[if_pos rfl,he];exact hs
        · show gsOk _ _ (if k=i then s else st k) 40;rw[if_neg hki];exact hst k (by have:k<i+1:=hk;omega)⟩,by show n - (i+1)<n - i;omega⟩)
  · have hi2:i=n:=by omega
    subst hi2
    repeat (first|refine Ta ?_|(refine Tm ?_;intro _)|refine Tc ?_|exact Tz)
    refine WC.dF rfl (by omega) ?_
    repeat (first|refine Ta ?_|(refine Tm ?_;intro _)|refine Tc ?_|exact Tz)
    exact WX.retP_ofN (resP0 rfl) Lle.same ⟨rfl,st,hst,by rw[stL_full,stL_full]⟩
set_option maxHeartbeats 2000000 in
theorem k_growKey (m:Nat) (a c d:Value) (bk g cc n:Nat) (E:Nat→HE) (r:List Value) (hn:n<1000) (hE:∀ k,k<n→(E k).ok 8) :
    FnL Tryz.prog 77 [pt bk] (⟨bk,66,bkC m a (.slice (some ⟨g,0,none⟩) n cc) c d⟩::⟨g,162,(List.range n).flatMap (fun k=>(E k).row)++r⟩::(List.range n).flatMap (fun k=>gsL 76 (mkC (E k).m) (E k) .A 0)) Tr
      (fun v N=>v=.tuple #[]∧∃ st:Nat→GS,(∀ k,k<n→gsOk (mkC (E k).m) (E k) (st k) 40)∧N=⟨bk,66,bkC m a (.slice (some ⟨g,0,none⟩) n cc) c d⟩::⟨g,162,(List.range n).flatMap (fun k=>heG (E k) (st k))++r⟩::(List.range n).flatMap (fun k=>gsL 76 (mkC (E k).m) (E k) (st k) 40)):=by
  refine FnL.enter Tryz.func77 rfl rfl rfl ?_
  intro w hw
  generalize List.map Ent.g _=gs
  repeat (first|refine Ta ?_|(refine Tm ?_;intro _)|refine Tc ?_|exact Tz)
  refine WC.loopI (σ:=Nat × (Nat→GS)) (fun s=>s.1≤n∧∀ k,k<s.1→gsOk (mkC (E k).m) (E k) (s.2 k) 40) (fun s=>[(0,pt bk),(2,.int .i64 (s.1:Int))]) (fun s=>⟨bk,66,bkC m a (.slice (some ⟨g,0,none⟩) n cc) c d⟩::⟨g,162,stL (fun k=>heG (E k) (s.2 k)) (fun k=>(E k).row) n s.1++r⟩::stL (fun k=>gsL 76 (mkC (E k).m) (E k) (s.2 k) 40) (fun k=>gsL 76 (mkC (E k).m) (E k) .A 0) n s.1) (fun s=>n - s.1) (0,fun _=>.A) (fun s hi=>?_) ⟨Nat.zero_le _,fun k hk=>absurd hk (Nat.not_lt_zero _)⟩ (hl:=by rw[stL_zero,stL_zero];exact Lle.same)
  obtain⟨i,st⟩:=s
  try dsimp only at hi ⊢
  obtain⟨hi,hst⟩:=hi
  by_cases hlt:i<n
  · have hok:=hE i hlt
    have hrow:cut (stL (fun k=>heG (E k) (st k)) (fun k=>(E k).row) n i++r) (0+i*3) 3=[(E i).v,.slice none 0 0,.int .i64 ((E i).m:Int)]:=by rw[Nat.zero_add];exact cut_st hlt (fun k=>rfl) (fun k=>rfl)
    have hp0:=stL_perm (A:=(fun k=>gsL 76 (mkC (E k).m) (E k) (st k) 40)) (B:=(fun k=>gsL 76 (mkC (E k).m) (E k) .A 0)) hlt
    have hadd2:IntKind.i64.wrap ((i:Int)+1)=((i+1:Nat):Int):=i64_in' (by omega) (by omega) (by omega)
    refine WC.permL ((hp0.cons _).cons _) ?_
    have hl3:(stL (fun k=>heG (E k) (st k)) (fun k=>(E k).row) n i++r).length=n*3+r.length:=by rw[List.length_append,stL_len3 (fun k=>rfl) (fun k=>rfl)]
    generalize hrs:stL (fun k=>heG (E k) (st k)) (fun k=>(E k).row) n i++r=rows at *
    clear hp0
    have hem:(E i).m<1000:=hok.mark
    have hA0:gsOk (mkC (E i).m) (E i) .A 0:=hok.le
    generalize hR:stR (fun k=>gsL 76 (mkC (E k).m) (E k) (st k) 40) (fun k=>gsL 76 (mkC (E k).m) (E k) .A 0) n i=R
    try dsimp only
    generalize he:E i=e at *
    have hmk:=k_markKey e.m hem
    repeat (first|refine Ta ?_|(refine Tm ?_;intro _)|refine Tc ?_|exact Tz)
    refine WC.dT rfl (by omega) ?_
    repeat (first|refine Ta ?_|(refine Tm ?_;intro _)|refine WO.does (does_indexSlice (o':=0+i*3) rfl rfl hlt rfl) ?_|refine WO.does (a_load (vs:=[e.v,.slice none 0 0,.int .i64 (e.m:Int)]) (hc:=hrow)) ?_|refine Tc ?_|exact Tz)
    rename_i gH
    refine WC.loopI (σ:=Nat × GS) (fun s=>s.1≤40∧gsOk (mkC e.m) e s.2 s.1) (fun s=>[(0,pt bk),(2,.int .i64 (i:Int)),(3,pt gH),(4,gsV e s.2 s.1),(5,.int .i64 (s.1:Int))]) (fun s=>⟨gH,162,[e.v,.slice none 0 0,.int .i64 (e.m:Int)]⟩::⟨bk,66,bkC m a (.slice (some ⟨g,0,none⟩) n cc) c d⟩::⟨g,162,rows⟩::(gsL 76 (mkC e.m) e s.2 s.1++R)) (fun s=>40 - s.1) (0,.A) (fun s hk=>?_) ⟨Nat.zero_le _,hA0⟩ (hl:=Lle.same)
    obtain⟨k,s⟩:=s
    try dsimp only at hk ⊢
    obtain⟨hk,hs⟩:=hk
    by_cases hkn:k<40
    · have hadd3:IntKind.i64.wrap ((k:Int)+1)=((k+1:Nat):Int):=i64_in' (by omega) (by omega) (by omega)
      repeat (first|refine Ta ?_|(refine Tm ?_;intro _)|refine Tc ?_|exact Tz)
      refine WC.dT rfl (by omega) ?_
      repeat (first|refine Ta ?_|(refine Tm ?_;intro _)|refine WO.acall (hc:=hmk) (k:=?_)|(refine WO.makes (makes_build (cs:=mkC e.m) rfl (by decide) rfl) ?_;intro gT)|refine Tc ?_|exact Tz)
      refine WO.appG (e:=e) (s:=s) (j:=k) (z:=twoC 0 0) (M:=mkC e.m) (T:=76) rfl rfl rfl rfl rfl (perm3.cons _) hs hok rfl hkn (by decide) (by decide) (by decide) (fun s' hs'=>?_)
      repeat (first|refine Ta ?_|(refine Tm ?_;intro _)|refine WO.does (does_add rfl rfl hadd3) ?_|refine Tc ?_|exact Tz)
      refine WX.permL perm3.symm ?_
      exact WX.metI (k+1,s') (hs:=⟨⟨by show k+1≤40;omega,hs'⟩,by show 40 - (k+1)<40 - k;omega⟩) (hl:=Lle.same)
    · have hk2:k=40:=by omega
      subst hk2
      have hov:over rows (i*3+1) [gsV e s 40]=stL (fun k=>heG (E k) (if k=i then s else st k)) (fun k=>(E k).row) n (i+1)++r:=by
        rw[← hrs,stL_congr (A':=fun k=>heG (E k) (if k=i then s else st k)) (fun k hk=>by rw[if_neg (by omega)])]
        exact over_st (a:=(E i).v) (u:=.slice none 0 0) (c:=.int .i64 ((E i).m:Int)) hlt (fun k=>rfl) (by rw[if_pos rfl,he]) rfl
      have hbl:Nat.ble (i*3+1+1) rows.length=true:=by rw[hl3,Nat.ble_eq];omega
      have hp1:(stL (fun k=>gsL 76 (mkC (E k).m) (E k) (if k=i then s else st k) 40) (fun k=>gsL 76 (mkC (E k).m) (E k) .A 0) n (i+1)).Perm (gsL 76 (mkC e.m) e s 40++R):=by
        have:=stL_perm1 (A:=fun k=>gsL 76 (mkC (E k).m) (E k) (if k=i then s else st k) 40) (B:=(fun k=>gsL 76 (mkC (E k).m) (E k) .A 0)) hlt
        rw[stR_congr (A':=(fun k=>gsL 76 (mkC (E k).m) (E k) (st k) 40)) (fun k hk=>by rw[if_neg (by omega)]),hR,if_pos rfl,he] at this
        exact this
      repeat (first|refine Ta ?_|(refine Tm ?_;intro _)|refine WO.does (does_indexSlice (o':=0+i*3) rfl rfl hlt rfl) ?_|refine Tc ?_|exact Tz)
      refine WO.stores (a_store (vs:=[gsV e s 40]) (cs':=stL (fun k=>heG (E k) (if k=i then s else st k)) (fun k=>(E k).row) n (i+1)++r) (hm:=.there (.there .here)) (hr:=.there (.there .here)) (hc:=hov) (hle:=hbl) (h1:=by cases s<;>rfl) (hv:=by cases s<;>rfl)) ?_
      repeat (first|refine Ta ?_|(refine Tm ?_;intro _)|refine WO.does (does_add rfl rfl hadd2) ?_|refine Tc ?_|exact Tz)
      refine WX.dropL (.cons _ (.refl _)) (WX.permL ((hp1.symm.cons _).cons _) ?_)
      exact WX.metI (i+1,fun k=>if k=i then s else st k) (hl:=Lle.same) (hs:=⟨⟨by show i+1≤n;omega,fun k hk=>by
        by_cases hki:k=i
        · subst hki;show gsOk _ _ (if k=k then s else st k) 40;rw[if_pos rfl,he];exact hs
        · show gsOk _ _ (if k=i then s else st k) 40;rw[if_neg hki];exact hst k (by have:k<i+1:=hk;omega)⟩,by show n - (i+1)<n - i;omega⟩)
  · have hi2:i=n:=by omega
    subst hi2
    repeat (first|refine Ta ?_|(refine Tm ?_;intro _)|refine Tc ?_|exact Tz)
    refine WC.dF rfl (by omega) ?_
    repeat (first|refine Ta ?_|(refine Tm ?_;intro _)|refine Tc ?_|exact Tz)
    exact WX.retP_ofN (resP0 rfl) Lle.same ⟨rfl,st,hst,by rw[stL_full,stL_full]⟩
set_option maxHeartbeats 2000000 in
theorem k_growProof (m:Nat) (a b d:Value) (bk g cc n:Nat) (E:Nat→HE) (r:List Value) (hn:n<1000) (hE:∀ k,k<n→(E k).ok 8) :
    FnL Tryz.prog 78 [pt bk] (⟨bk,66,bkC m a b (.slice (some ⟨g,0,none⟩) n cc) d⟩::⟨g,165,(List.range n).flatMap (fun k=>(E k).row)++r⟩::(List.range n).flatMap (fun k=>gsL 87 (mkC (E k).m) (E k) .A 0)) Tr
      (fun v N=>v=.tuple #[]∧∃ st:Nat→GS,(∀ k,k<n→gsOk (mkC (E k).m) (E k) (st k) 40)∧N=⟨bk,66,bkC m a b (.slice (some ⟨g,0,none⟩) n cc) d⟩::⟨g,165,(List.range n).flatMap (fun k=>heG (E k) (st k))++r⟩::(List.range n).flatMap (fun k=>gsL 87 (mkC (E k).m) (E k) (st k) 40)):=by
  refine FnL.enter Tryz.func78 rfl rfl rfl ?_
  intro w hw
  generalize List.map Ent.g _=gs
  repeat (first|refine Ta ?_|(refine Tm ?_;intro _)|refine Tc ?_|exact Tz)
  refine WC.loopI (σ:=Nat × (Nat→GS)) (fun s=>s.1≤n∧∀ k,k<s.1→gsOk (mkC (E k).m) (E k) (s.2 k) 40) (fun s=>[(0,pt bk),(2,.int .i64 (s.1:Int))]) (fun s=>⟨bk,66,bkC m a b (.slice (some ⟨g,0,none⟩) n cc) d⟩::⟨g,165,stL (fun k=>heG (E k) (s.2 k)) (fun k=>(E k).row) n s.1++r⟩::stL (fun k=>gsL 87 (mkC (E k).m) (E k) (s.2 k) 40) (fun k=>gsL 87 (mkC (E k).m) (E k) .A 0) n s.1) (fun s=>n - s.1) (0,fun _=>.A) (fun s hi=>?_) ⟨Nat.zero_le _,fun k hk=>absurd hk (Nat.not_lt_zero _)⟩ (hl:=by rw[stL_zero,stL_zero];exact Lle.same)
  obtain⟨i,st⟩:=s
  try dsimp only at hi ⊢
  obtain⟨hi,hst⟩:=hi
  by_cases hlt:i<n
  · have hok:=hE i hlt
    have hrow:cut (stL (fun k=>heG (E k) (st k)) (fun k=>(E k).row) n i++r) (0+i*3) 3=[(E i).v,.slice none 0 0,.int .i64 ((E i).m:Int)]:=by rw[Nat.zero_add];exact cut_st hlt (fun k=>rfl) (fun k=>rfl)
    have hp0:=stL_perm (A:=(fun k=>gsL 87 (mkC (E k).m) (E k) (st k) 40)) (B:=(fun k=>gsL 87 (mkC (E k).m) (E k) .A 0)) hlt
    have hadd2:IntKind.i64.wrap ((i:Int)+1)=((i+1:Nat):Int):=i64_in' (by omega) (by omega) (by omega)
    refine WC.permL ((hp0.cons _).cons _) ?_
    have hl3:(stL (fun k=>heG (E k) (st k)) (fun k=>(E k).row) n i++r).length=n*3+r.length:=by rw[List.length_append,stL_len3 (fun k=>rfl) (fun k=>rfl)]
    generalize hrs:stL (fun k=>heG (E k) (st k)) (fun k=>(E k).row) n i++r=rows at *
    clear hp0
    have hem:(E i).m<1000:=hok.mark
    have hA0:gsOk (mkC (E i).m) (E i) .A 0:=hok.le
    generalize hR:stR (fun k=>gsL 87 (mkC (E k).m) (E k) (st k) 40) (fun k=>gsL 87 (mkC (E k).m) (E k) .A 0) n i=R
    try dsimp only
    generalize he:E i=e at *
    have hmk:=k_markProof e.m hem
    repeat (first|refine Ta ?_|(refine Tm ?_;intro _)|refine Tc ?_|exact Tz)
    refine WC.dT rfl (by omega) ?_
    repeat (first|refine Ta ?_|(refine Tm ?_;intro _)|refine WO.does (does_indexSlice (o':=0+i*3) rfl rfl hlt rfl) ?_|refine WO.does (a_load (vs:=[e.v,.slice none 0 0,.int .i64 (e.m:Int)]) (hc:=hrow)) ?_|refine Tc ?_|exact Tz)
    rename_i gH
    refine WC.loopI (σ:=Nat × GS) (fun s=>s.1≤40∧gsOk (mkC e.m) e s.2 s.1) (fun s=>[(0,pt bk),(2,.int .i64 (i:Int)),(3,pt gH),(4,gsV e s.2 s.1),(5,.int .i64 (s.1:Int))]) (fun s=>⟨gH,165,[e.v,.slice none 0 0,.int .i64 (e.m:Int)]⟩::⟨bk,66,bkC m a b (.slice (some ⟨g,0,none⟩) n cc) d⟩::⟨g,165,rows⟩::(gsL 87 (mkC e.m) e s.2 s.1++R)) (fun s=>40 - s.1) (0,.A) (fun s hk=>?_) ⟨Nat.zero_le _,hA0⟩ (hl:=Lle.same)
    obtain⟨k,s⟩:=s
    try dsimp only at hk ⊢
    obtain⟨hk,hs⟩:=hk
    by_cases hkn:k<40
    · have hadd3:IntKind.i64.wrap ((k:Int)+1)=((k+1:Nat):Int):=i64_in' (by omega) (by omega) (by omega)
      repeat (first|refine Ta ?_|(refine Tm ?_;intro _)|refine Tc ?_|exact Tz)
      refine WC.dT rfl (by omega) ?_
      repeat (first|refine Ta ?_|(refine Tm ?_;intro _)|refine WO.acall (hc:=hmk) (k:=?_)|(refine WO.makes (makes_build (cs:=mkC e.m) rfl (by decide) rfl) ?_;intro gT)|refine Tc ?_|exact Tz)
      refine WO.appG (e:=e) (s:=s) (j:=k) (z:=twoC 0 0) (M:=mkC e.m) (T:=87) rfl rfl rfl rfl rfl (perm3.cons _) hs hok rfl hkn (by decide) (by decide) (by decide) (fun s' hs'=>?_)
      repeat (first|refine Ta ?_|(refine Tm ?_;intro _)|refine WO.does (does_add rfl rfl hadd3) ?_|refine Tc ?_|exact Tz)
      refine WX.permL perm3.symm ?_
      exact WX.metI (k+1,s') (hs:=⟨⟨by show k+1≤40;omega,hs'⟩,by show 40 - (k+1)<40 - k;omega⟩) (hl:=Lle.same)
    · have hk2:k=40:=by omega
      subst hk2
      have hov:over rows (i*3+1) [gsV e s 40]=stL (fun k=>heG (E k) (if k=i then s else st k)) (fun k=>(E k).row) n (i+1)++r:=by
        rw[← hrs,stL_congr (A':=fun k=>heG (E k) (if k=i then s else st k)) (fun k hk=>by rw[if_neg (by omega)])]
        exact over_st (a:=(E i).v) (u:=.slice none 0 0) (c:=.int .i64 ((E i).m:Int)) hlt (fun k=>rfl) (by rw[if_pos rfl,he]) rfl
      have hbl:Nat.ble (i*3+1+1) rows.length=true:=by rw[hl3,Nat.ble_eq];omega
      have hp1:(stL (fun k=>gsL 87 (mkC (E k).m) (E k) (if k=i then s else st k) 40) (fun k=>gsL 87 (mkC (E k).m) (E k) .A 0) n (i+1)).Perm (gsL 87 (mkC e.m) e s 40++R):=by
        have:=stL_perm1 (A:=fun k=>gsL 87 (mkC (E k).m) (E k) (if k=i then s else st k) 40) (B:=(fun k=>gsL 87 (mkC (E k).m) (E k) .A 0)) hlt
        rw[stR_congr (A':=(fun k=>gsL 87 (mkC (E k).m) (E k) (st k) 40)) (fun k hk=>by rw[if_neg (by omega)]),hR,if_pos rfl,he] at this
        exact this
      repeat (first|refine Ta ?_|(refine Tm ?_;intro _)|refine WO.does (does_indexSlice (o':=0+i*3) rfl rfl hlt rfl) ?_|refine Tc ?_|exact Tz)
      refine WO.stores (a_store (vs:=[gsV e s 40]) (cs':=stL (fun k=>heG (E k) (if k=i then s else st k)) (fun k=>(E k).row) n (i+1)++r) (hm:=.there (.there .here)) (hr:=.there (.there .here)) (hc:=hov) (hle:=hbl) (h1:=by cases s<;>rfl) (hv:=by cases s<;>rfl)) ?_
      repeat (first|refine Ta ?_|(refine Tm ?_;intro _)|refine WO.does (does_add rfl rfl hadd2) ?_|refine Tc ?_|exact Tz)
      refine WX.dropL (.cons _ (.refl _)) (WX.permL ((hp1.symm.cons _).cons _) ?_)
      exact WX.metI (i+1,fun k=>if k=i then s else st k) (hl:=Lle.same) (hs:=⟨⟨by show i+1≤n;omega,fun k hk=>by
        by_cases hki:k=i
        · subst hki;show gsOk _ _ (if k=k then s else st k) 40;rw[if_pos rfl,he];exact hs
        · show gsOk _ _ (if k=i then s else st k) 40;rw[if_neg hki];exact hst k (by have:k<i+1:=hk;omega)⟩,by show n - (i+1)<n - i;omega⟩)
  · have hi2:i=n:=by omega
    subst hi2
    repeat (first|refine Ta ?_|(refine Tm ?_;intro _)|refine Tc ?_|exact Tz)
    refine WC.dF rfl (by omega) ?_
    repeat (first|refine Ta ?_|(refine Tm ?_;intro _)|refine Tc ?_|exact Tz)
    exact WX.retP_ofN (resP0 rfl) Lle.same ⟨rfl,st,hst,by rw[stL_full,stL_full]⟩
end Sx
end Go.Proofs.YtmhligfnchegdaaGreatDoor
