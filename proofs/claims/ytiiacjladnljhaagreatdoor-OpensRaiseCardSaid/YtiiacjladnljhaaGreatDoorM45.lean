/- Part 45 of the proof: BkJ -/
import Derived.Test.YtiiacjladnljhaaGreatDoorM44
import Derived.Test.YtiiacjladnljhaaGreatDoorM31
set_option linter.unusedSimpArgs false
set_option linter.unusedVariables false
namespace Go.Proofs.YtiiacjladnljhaaGreatDoor
open Go Go.RowKit Go.BigFrame
namespace Sx
attribute [local irreducible] wd DQ DQS WO WC WX
abbrev mkO (m:Nat):List Value:=opC m 0 0 0 0 0
section
variable (m:Nat) (a b c d:Value) (bk:Nat) (pl:Option Addr) (nl cl:Nat)
set_option maxHeartbeats 1000000 in
theorem k_keepOpened0 (hm:m<1000):FnL Tryz.prog 38 [pt bk,.slice pl nl cl] [⟨bk,68,bkC m a b c (.slice none 0 0)⟩] Tr
    (BkKept bk 122 (fun v=>bkC (m+1) a b c v) [] 1 (heR (.slice pl nl cl) (m+1))):=by
  have hadd:IntKind.i64.wrap ((m:Int)+1)=((m+1:Nat):Int):=i64_in' (by omega) (by omega) (by omega)
  refine FnL.enter Tryz.func38 rfl rfl rfl ?_
  intro w hw
  repeat (first|refine Ta ?_|(refine Tm ?_;intro _)|refine WO.does (does_add rfl rfl hadd) ?_|refine Tc ?_|exact Tz)
  refine WC.adrawF [0] 12 (k:=?_)
  iterate 11 (first|refine Da ?_|refine Df ?_)
  refine DQ.makes (vf:=fun _ g=>.slice (some ⟨g,0,none⟩) 1 1) (t:=122) (cs:=fun _=>heR (.slice pl nl cl) (m+1)) (fun s _=>makes_build rfl (by decide) rfl) Dp.const Dp.const ?_
  refine DQ.anil (k:=?_)
  intro sx _
  generalize sx 11 0=gT
  refine WO.appN (z:=heR (.slice none 0 0) 0) (m:=1) rfl rfl rfl (Rds.own (m:=3) Hs.here rfl) rfl (by decide) (by decide) (by decide) (by decide) (fun g1 c1 r1 a1 a2 a3=>?_)
  repeat (first|refine Ta ?_|(refine Tm ?_;intro _)|refine Tc ?_|exact Tz)
  exact WX.retP_ofN (resP0 rfl) (Lle.cons (by repeat (first|exact Pk.here|apply Pk.there)) rfl (Lle.cons (by repeat (first|exact Pk.here|apply Pk.there)) rfl Lle.nil)) ⟨rfl,g1,c1,r1,rfl,a1,a2,a3⟩
theorem k_Openeds0 (hm:m<1000):FnL Tryz.prog 17 [pt bk,.slice pl nl cl] [⟨bk,68,bkC m a b c (.slice none 0 0)⟩] Tr (BkKept bk 122 (fun v=>bkC (m+1) a b c v) [] 1 (heR (.slice pl nl cl) (m+1))):=by
  refine FnL.enter Tryz.func17 rfl rfl rfl ?_
  intro w hw
  repeat (first|refine Ta ?_|(refine Tm ?_;intro _)|refine Tc ?_|exact Tz)
  refine WO.callsL (hc:=k_keepOpened0 m a b c bk pl nl cl hm) (hp:=.cons .here .nil) (fun _ _=>trivial) (fun v N hp=>?_)
  obtain⟨rfl,g',c',r',rfl,h1,h2,h3⟩:=hp
  repeat (first|refine Ta ?_|(refine Tm ?_;intro _)|refine Tc ?_|exact Tz)
  exact WX.retP_ofN (resP0 rfl) (Lle.cons (by repeat (first|exact Pk.here|apply Pk.there)) rfl (Lle.cons (by repeat (first|exact Pk.here|apply Pk.there)) rfl Lle.nil)) ⟨rfl,g',c',r',rfl,h1,h2,h3⟩
theorem k_fillProof0:FnL Tryz.prog 47 [pt bk] [] (fun w=>Seg w bk 0 (bkC m a b (.slice none 0 0) d)) (fun v N=>v=.tuple #[]∧N=[]):=by
  refine FnL.enter Tryz.func47 rfl rfl rfl ?_
  intro w hw
  repeat (first|refine WC.loopU 1 ?_|refine Ta ?_|(refine Tm ?_;intro _)|refine WO.does (a_loadF (vs:=[.slice none 0 0]) (hs:=hw) (hle:=Nat.zero_le _) (hc:=rfl)) ?_|refine Tc ?_|exact Tz)
  exact WX.retP_ofN (resP0 rfl) Lle.nil ⟨rfl,rfl⟩
theorem k_growProof0:FnL Tryz.prog 64 [pt bk] [] (fun w=>Seg w bk 0 (bkC m a b (.slice none 0 0) d)) (fun v N=>v=.tuple #[]∧N=[]):=by
  refine FnL.enter Tryz.func64 rfl rfl rfl ?_
  intro w hw
  repeat (first|refine WC.loopU 1 ?_|refine Ta ?_|(refine Tm ?_;intro _)|refine WO.does (a_loadF (vs:=[.slice none 0 0]) (hs:=hw) (hle:=Nat.zero_le _) (hc:=rfl)) ?_|refine Tc ?_|exact Tz)
  exact WX.retP_ofN (resP0 rfl) Lle.nil ⟨rfl,rfl⟩
theorem k_lookProof0:Fn Tryz.prog 81 [pt bk] (fun w=>Seg w bk 0 (bkC m a b (.slice none 0 0) d)) (Is (.bool true)):=by
  refine Fn.enter Tryz.func81 rfl rfl rfl ?_
  intro w hw
  repeat (first|refine WC.loopU 1 ?_|refine Ta ?_|(refine Tm ?_;intro _)|refine WO.does (a_loadF (vs:=[.slice none 0 0]) (hs:=hw) (hle:=Nat.zero_le _) (hc:=rfl)) ?_|refine Tc ?_|exact Tz)
end
theorem k_markOpened (m:Nat) (hm:m<1000):Fn Tryz.prog 129 [.int .i64 (m:Int)] Tr (Is (.agg (mkO m).toArray)):=by
  have hcv:IntKind.u64.wrap (m:Int)=(m:Int):=u64_in (by omega) (by omega)
  refine Fn.enter Tryz.func129 rfl rfl rfl ?_
  intro w hw
  repeat (first|refine WO.does (does_buildT (t:=76) (cs:=mkO m) rfl (by kernel_rfl)) ?_|refine Ta ?_|(refine Tm ?_;intro _)|refine WO.does (does_conv rfl hcv) ?_|refine Tc ?_|exact Tz)
set_option maxHeartbeats 2000000 in
theorem k_fillOpenedL (m:Nat) (a b c:Value) (bk g cc n:Nat) (E:Nat→HE) (r:List Value) (hn:n<1000) (hE:∀ k,k<n→(E k).ok 15) :
    FnL Tryz.prog 49 [pt bk] (⟨bk,68,bkC m a b c (.slice (some ⟨g,0,none⟩) n cc)⟩::⟨g,122,(List.range n).flatMap (fun k=>(E k).row)++r⟩::(List.range n).flatMap (fun k=>(E k).L 76)) Tr
      (fun v N=>v=.tuple #[]∧N=⟨bk,68,bkC m a b c (.slice (some ⟨g,0,none⟩) n cc)⟩::⟨g,122,(List.range n).flatMap (fun k=>(E k).row)++r⟩::(List.range n).flatMap (fun k=>((E k).fill mkO).L 76)):=by
  refine FnL.enter Tryz.func49 rfl rfl rfl ?_
  intro w hw
  generalize List.map Ent.g _=gs
  repeat (first|refine Ta ?_|(refine Tm ?_;intro _)|refine Tc ?_|exact Tz)
  refine WC.loopI (σ:=Nat) (fun i=>i≤n) (fun i=>[(0,pt bk),(2,.int .i64 (i:Int))]) (fun i=>⟨bk,68,bkC m a b c (.slice (some ⟨g,0,none⟩) n cc)⟩::⟨g,122,(List.range n).flatMap (fun k=>(E k).row)++r⟩::stL (fun k=>((E k).fill mkO).L 76) (fun k=>(E k).L 76) n i) (fun i=>n - i) 0 (fun i hi=>?_) (Nat.zero_le _) (hl:=by rw[stL_zero];exact Lle.same)
  try dsimp only at hi ⊢
  by_cases hlt:i<n
  · have hok:=hE i hlt
    have hrow:cut ((List.range n).flatMap (fun k=>(E k).row)++r) (0+i*3) 3=(E i).row:=by rw[Nat.zero_add];exact cut_st0 hlt (fun k=>rfl)
    have hp0:=stL_perm (A:=(fun k=>((E k).fill mkO).L 76)) (B:=(fun k=>(E k).L 76)) hlt
    have hp1:=stL_perm1 (A:=(fun k=>((E k).fill mkO).L 76)) (B:=(fun k=>(E k).L 76)) hlt
    have hadd2:IntKind.i64.wrap ((i:Int)+1)=((i+1:Nat):Int):=i64_in' (by omega) (by omega) (by omega)
    refine WC.permL ((hp0.cons _).cons _) ?_
    generalize hL1:stL (fun k=>((E k).fill mkO).L 76) (fun k=>(E k).L 76) n (i+1)=L1 at *
    generalize stL (fun k=>((E k).fill mkO).L 76) (fun k=>(E k).L 76) n i=L0 at *
    generalize stR (fun k=>((E k).fill mkO).L 76) (fun k=>(E k).L 76) n i=R at *
    generalize (List.range n).flatMap (fun k=>(E k).row)++r=rows at *
    try dsimp only at hp0 hp1
    generalize E i=e at *
    clear hp0 hE
    obtain⟨eb,en,ec,ecs,em⟩:=e
    cases eb with
    | none =>
      have h0:en=0:=(hok.nil rfl).1
      subst h0
      have hrow:cut rows (0+i*3) 3=[.slice none 0 ec,.slice none 0 0,.int .i64 (em:Int)]:=hrow
      rw[show HE.L 76 ⟨none,0,ec,ecs,em⟩=[] from rfl,List.nil_append]
      repeat (first|refine Ta ?_|(refine Tm ?_;intro _)|refine Tc ?_|exact Tz)
      refine WC.dT rfl (by omega) ?_
      repeat (first|refine WC.loopU 1 ?_|refine Ta ?_|(refine Tm ?_;intro _)|refine WO.does (does_indexSlice (o':=0+i*3) rfl rfl hlt rfl) ?_|refine WO.does (a_load (vs:=[.slice none 0 ec,.slice none 0 0,.int .i64 (em:Int)]) (hc:=hrow)) ?_|refine WO.does (does_add rfl rfl hadd2) ?_|refine Tc ?_|exact Tz)
      refine WX.dropL (.cons _ (.refl _)) (WX.permL ((hp1.symm.cons _).cons _) ?_)
      subst hL1
      exact WX.metI (i+1) (hl:=Lle.same) (hs:=⟨by show i+1≤n;omega,by show n - (i+1)<n - i;omega⟩)
    | some eb =>
      have hle:en≤ec:=hok.le
      have hmost:en≤100:=hok.most
      have hlen:ecs.length=ec*15:=hok.len
      have hem:em<1000:=hok.mark
      have hmk:=k_markOpened em hem
      have hrow:cut rows (0+i*3) 3=[.slice (some ⟨eb,0,none⟩) en ec,.slice none 0 0,.int .i64 (em:Int)]:=hrow
      rw[show HE.L 76 ⟨some eb,en,ec,ecs,em⟩=[⟨eb,76,ecs⟩] from rfl,List.singleton_append]
      repeat (first|refine Ta ?_|(refine Tm ?_;intro _)|refine Tc ?_|exact Tz)
      refine WC.dT rfl (by omega) ?_
      repeat (first|refine Ta ?_|(refine Tm ?_;intro _)|refine WO.does (does_indexSlice (o':=0+i*3) rfl rfl hlt rfl) ?_|refine WO.does (a_load (vs:=[.slice (some ⟨eb,0,none⟩) en ec,.slice none 0 0,.int .i64 (em:Int)]) (hc:=hrow)) ?_|refine Tc ?_|exact Tz)
      rename_i gH
      refine WC.loopI (σ:=Nat) (fun k=>k≤en) (fun k=>[(0,pt bk),(2,.int .i64 (i:Int)),(3,pt gH),(4,.int .i64 (k:Int))]) (fun k=>⟨gH,122,[.slice (some ⟨eb,0,none⟩) en ec,.slice none 0 0,.int .i64 (em:Int)]⟩::⟨bk,68,bkC m a b c (.slice (some ⟨g,0,none⟩) n cc)⟩::⟨g,122,rows⟩::⟨eb,76,mkz k (mkO em)++ecs.drop (k*15)⟩::R) (fun k=>en - k) 0 (fun k hk=>?_) (Nat.zero_le _) (hl:=by rw[Nat.zero_mul];exact Lle.same)
      try dsimp only at hk ⊢
      by_cases hkn:k<en
      · have hadd3:IntKind.i64.wrap ((k:Int)+1)=((k+1:Nat):Int):=i64_in' (by omega) (by omega) (by omega)
        have hov:over (mkz k (mkO em)++ecs.drop (k*15)) (0+k*15) (mkO em)=mkz (k+1) (mkO em)++ecs.drop ((k+1)*15):=by rw[Nat.zero_add];exact over_mark
        have hbl:Nat.ble (0+k*15+15) (mkz k (mkO em)++ecs.drop (k*15)).length=true:=by
          rw[Nat.ble_eq,List.length_append,mkz_length,List.length_drop,hlen,Nat.zero_add]
          show k*15+15≤k*15+(ec*15 - k*15)
          omega
        repeat (first|refine Ta ?_|(refine Tm ?_;intro _)|refine Tc ?_|exact Tz)
        refine WC.dT rfl (by omega) ?_
        repeat (first|refine Ta ?_|(refine Tm ?_;intro _)|refine Tc ?_|exact Tz)
        refine WC.adraw 7 (k:=?_)
        iterate 7 (first|refine Da ?_|refine DQ.acall (hc:=hmk) (k:=?_)|refine DQ.does (fun s _=>does_indexSlice (o':=0+k*15) rfl rfl hkn rfl) Dp.const ?_|refine Dc ?_)
        refine DQ.anil (k:=?_)
        intro sx _
        refine WO.stores (a_store (vs:=mkO em) (cs':=mkz (k+1) (mkO em)++ecs.drop ((k+1)*15)) (hc:=hov) (hle:=hbl)) ?_
        repeat (first|refine Ta ?_|(refine Tm ?_;intro _)|refine WO.does (does_add rfl rfl hadd3) ?_|refine Tc ?_|exact Tz)
        exact WX.metI (k+1) (hs:=⟨by show k+1≤en;omega,by show en - (k+1)<en - k;omega⟩) (hl:=Lle.same)
      · have hk2:k=en:=by omega
        subst hk2
        repeat (first|refine Ta ?_|(refine Tm ?_;intro _)|refine Tc ?_|exact Tz)
        refine WC.dF rfl (by omega) ?_
        repeat (first|refine Ta ?_|(refine Tm ?_;intro _)|refine WO.does (does_add rfl rfl hadd2) ?_|refine Tc ?_|exact Tz)
        refine WX.dropL (.cons _ (.refl _)) (WX.permL ((hp1.symm.cons _).cons _) ?_)
        subst hL1
        exact WX.metI (i+1) (hl:=Lle.same) (hs:=⟨by show i+1≤n;omega,by show n - (i+1)<n - i;omega⟩)
  · have hi2:i=n:=by omega
    subst hi2
    repeat (first|refine Ta ?_|(refine Tm ?_;intro _)|refine Tc ?_|exact Tz)
    refine WC.dF rfl (by omega) ?_
    repeat (first|refine Ta ?_|(refine Tm ?_;intro _)|refine Tc ?_|exact Tz)
    exact WX.retP_ofN (resP0 rfl) Lle.same ⟨rfl,by rw[stL_full]⟩
set_option maxHeartbeats 2000000 in
theorem k_growOpenedL (m:Nat) (a b c:Value) (bk g cc n:Nat) (E:Nat→HE) (r:List Value) (hn:n<1000) (hE:∀ k,k<n→(E k).ok 15) :
    FnL Tryz.prog 66 [pt bk] (⟨bk,68,bkC m a b c (.slice (some ⟨g,0,none⟩) n cc)⟩::⟨g,122,(List.range n).flatMap (fun k=>(E k).row)++r⟩::(List.range n).flatMap (fun k=>gsL 76 (mkO (E k).m) (E k) .A 0)) Tr
      (fun v N=>v=.tuple #[]∧∃ st:Nat→GS,(∀ k,k<n→gsOk (mkO (E k).m) (E k) (st k) 40)∧N=⟨bk,68,bkC m a b c (.slice (some ⟨g,0,none⟩) n cc)⟩::⟨g,122,(List.range n).flatMap (fun k=>heG (E k) (st k))++r⟩::(List.range n).flatMap (fun k=>gsL 76 (mkO (E k).m) (E k) (st k) 40)):=by
  refine FnL.enter Tryz.func66 rfl rfl rfl ?_
  intro w hw
  generalize List.map Ent.g _=gs
  repeat (first|refine Ta ?_|(refine Tm ?_;intro _)|refine Tc ?_|exact Tz)
  refine WC.loopI (σ:=Nat × (Nat→GS)) (fun s=>s.1≤n∧∀ k,k<s.1→gsOk (mkO (E k).m) (E k) (s.2 k) 40) (fun s=>[(0,pt bk),(2,.int .i64 (s.1:Int))]) (fun s=>⟨bk,68,bkC m a b c (.slice (some ⟨g,0,none⟩) n cc)⟩::⟨g,122,stL (fun k=>heG (E k) (s.2 k)) (fun k=>(E k).row) n s.1++r⟩::stL (fun k=>gsL 76 (mkO (E k).m) (E k) (s.2 k) 40) (fun k=>gsL 76 (mkO (E k).m) (E k) .A 0) n s.1) (fun s=>n - s.1) (0,fun _=>.A) (fun s hi=>?_) ⟨Nat.zero_le _,fun k hk=>absurd hk (Nat.not_lt_zero _)⟩ (hl:=by rw[stL_zero,stL_zero];exact Lle.same)
  obtain⟨i,st⟩:=s
  try dsimp only at hi ⊢
  obtain⟨hi,hst⟩:=hi
  by_cases hlt:i<n
  · have hok:=hE i hlt
    have hrow:cut (stL (fun k=>heG (E k) (st k)) (fun k=>(E k).row) n i++r) (0+i*3) 3=[(E i).v,.slice none 0 0,.int .i64 ((E i).m:Int)]:=by rw[Nat.zero_add];exact cut_st hlt (fun k=>rfl) (fun k=>rfl)
    have hp0:=stL_perm (A:=(fun k=>gsL 76 (mkO (E k).m) (E k) (st k) 40)) (B:=(fun k=>gsL 76 (mkO (E k).m) (E k) .A 0)) hlt
    have hadd2:IntKind.i64.wrap ((i:Int)+1)=((i+1:Nat):Int):=i64_in' (by omega) (by omega) (by omega)
    refine WC.permL ((hp0.cons _).cons _) ?_
    have hl3:(stL (fun k=>heG (E k) (st k)) (fun k=>(E k).row) n i++r).length=n*3+r.length:=by rw[List.length_append,stL_len3 (fun k=>rfl) (fun k=>rfl)]
    generalize hrs:stL (fun k=>heG (E k) (st k)) (fun k=>(E k).row) n i++r=rows at *
    clear hp0
    have hem:(E i).m<1000:=hok.mark
    have hA0:gsOk (mkO (E i).m) (E i) .A 0:=hok.le
    generalize hR:stR (fun k=>gsL 76 (mkO (E k).m) (E k) (st k) 40) (fun k=>gsL 76 (mkO (E k).m) (E k) .A 0) n i=R
    try dsimp only
    generalize he:E i=e at *
    have hmk:=k_markOpened e.m hem
    repeat (first|refine Ta ?_|(refine Tm ?_;intro _)|refine Tc ?_|exact Tz)
    refine WC.dT rfl (by omega) ?_
    repeat (first|refine Ta ?_|(refine Tm ?_;intro _)|refine WO.does (does_indexSlice (o':=0+i*3) rfl rfl hlt rfl) ?_|refine WO.does (a_load (vs:=[e.v,.slice none 0 0,.int .i64 (e.m:Int)]) (hc:=hrow)) ?_|refine Tc ?_|exact Tz)
    rename_i gH
    refine WC.loopI (σ:=Nat × GS) (fun s=>s.1≤40∧gsOk (mkO e.m) e s.2 s.1) (fun s=>[(0,pt bk),(2,.int .i64 (i:Int)),(3,pt gH),(4,gsV e s.2 s.1),(5,.int .i64 (s.1:Int))]) (fun s=>⟨gH,122,[e.v,.slice none 0 0,.int .i64 (e.m:Int)]⟩::⟨bk,68,bkC m a b c (.slice (some ⟨g,0,none⟩) n cc)⟩::⟨g,122,rows⟩::(gsL 76 (mkO e.m) e s.2 s.1++R)) (fun s=>40 - s.1) (0,.A) (fun s hk=>?_) ⟨Nat.zero_le _,hA0⟩ (hl:=Lle.same)
    obtain⟨k,s⟩:=s
    try dsimp only at hk ⊢
    obtain⟨hk,hs⟩:=hk
    by_cases hkn:k<40
    · have hadd3:IntKind.i64.wrap ((k:Int)+1)=((k+1:Nat):Int):=i64_in' (by omega) (by omega) (by omega)
      repeat (first|refine Ta ?_|(refine Tm ?_;intro _)|refine Tc ?_|exact Tz)
      refine WC.dT rfl (by omega) ?_
      repeat (first|refine Ta ?_|(refine Tm ?_;intro _)|refine WO.acall (hc:=hmk) (k:=?_)|(refine WO.makes (makes_build (cs:=mkO e.m) rfl (by decide) rfl) ?_;intro gT)|refine Tc ?_|exact Tz)
      refine WO.appG (e:=e) (s:=s) (j:=k) (z:=opC 0 0 0 0 0 0) (M:=mkO e.m) (T:=76) rfl rfl rfl rfl rfl (perm3.cons _) hs hok rfl hkn (by decide) (by decide) (by decide) (fun s' hs'=>?_)
      repeat (first|refine Ta ?_|(refine Tm ?_;intro _)|refine WO.does (does_add rfl rfl hadd3) ?_|refine Tc ?_|exact Tz)
      refine WX.permL perm3.symm ?_
      exact WX.metI (k+1,s') (hs:=⟨⟨by show k+1≤40;omega,hs'⟩,by show 40 - (k+1)<40 - k;omega⟩) (hl:=Lle.same)
    · have hk2:k=40:=by omega
      subst hk2
      have hov:over rows (i*3+1) [gsV e s 40]=stL (fun k=>heG (E k) (if k=i then s else st k)) (fun k=>(E k).row) n (i+1)++r:=by
        rw[← hrs,stL_congr (A':=fun k=>heG (E k) (if k=i then s else st k)) (fun k hk=>by rw[if_neg (by omega)])]
        exact over_st (a:=(E i).v) (u:=.slice none 0 0) (c:=.int .i64 ((E i).m:Int)) hlt (fun k=>rfl) (by rw[if_pos rfl,he]) rfl
      have hbl:Nat.ble (i*3+1+1) rows.length=true:=by rw[hl3,Nat.ble_eq];omega
      have hp1:(stL (fun k=>gsL 76 (mkO (E k).m) (E k) (if k=i then s else st k) 40) (fun k=>gsL 76 (mkO (E k).m) (E k) .A 0) n (i+1)).Perm (gsL 76 (mkO e.m) e s 40++R):=by
        have:=stL_perm1 (A:=fun k=>gsL 76 (mkO (E k).m) (E k) (if k=i then s else st k) 40) (B:=(fun k=>gsL 76 (mkO (E k).m) (E k) .A 0)) hlt
        rw[stR_congr (A':=(fun k=>gsL 76 (mkO (E k).m) (E k) (st k) 40)) (fun k hk=>by rw[if_neg (by omega)]),hR,if_pos rfl,he] at this
        exact this
      repeat (first|refine Ta ?_|(refine Tm ?_;intro _)|refine WO.does (does_indexSlice (o':=0+i*3) rfl rfl hlt rfl) ?_|refine Tc ?_|exact Tz)
      refine WO.stores (a_store (vs:=[gsV e s 40]) (cs':=stL (fun k=>heG (E k) (if k=i then s else st k)) (fun k=>(E k).row) n (i+1)++r) (hm:=.there (.there .here)) (hr:=.there (.there .here)) (hc:=hov) (hle:=hbl) (h1:=by cases s<;>rfl) (hv:=by cases s<;>rfl)) ?_
      repeat (first|refine Ta ?_|(refine Tm ?_;intro _)|refine WO.does (does_add rfl rfl hadd2) ?_|refine Tc ?_|exact Tz)
      refine WX.dropL (.cons _ (.refl _)) (WX.permL ((hp1.symm.cons _).cons _) ?_)
      exact WX.metI (i+1,fun k=>if k=i then s else st k) (hl:=Lle.same) (hs:=⟨⟨by show i+1≤n;omega,fun k hk=>by
        by_cases hki:k=i
        · subst hki;show gsOk _ _ (if k=k then s else st k) 40;rw[if_pos rfl,he];exact hs
        · show gsOk _ _ (if k=i then s else st k) 40;rw[if_neg hki];exact hst k (by have:k<i+1:=hk;omega)⟩,by show n - (i+1)<n - i;omega⟩)
  · have hi2:i=n:=by omega
    subst hi2
    repeat (first|refine Ta ?_|(refine Tm ?_;intro _)|refine Tc ?_|exact Tz)
    refine WC.dF rfl (by omega) ?_
    repeat (first|refine Ta ?_|(refine Tm ?_;intro _)|refine Tc ?_|exact Tz)
    exact WX.retP_ofN (resP0 rfl) Lle.same ⟨rfl,st,hst,by rw[stL_full,stL_full]⟩
theorem k_isOpened (m:Nat) (hm:m<1000):Fn Tryz.prog 146 [.agg (mkO m).toArray,.int .i64 (m:Int)] Tr (Is (.bool true)):=by
  have hcv:IntKind.u64.wrap (m:Int)=(m:Int):=u64_in (by omega) (by omega)
  refine Fn.enter Tryz.func146 rfl rfl rfl ?_
  intro w hw
  repeat (first|refine WO.does (does_eqlY rfl rfl rfl) ?_|refine Ta ?_|(refine Tm ?_;intro _)|refine WO.does (does_conv rfl hcv) ?_|refine Tc ?_|exact Tz)
set_option maxHeartbeats 2000000 in
theorem k_lookOpenedL (m:Nat) (a b c:Value) (bk g cc n:Nat) (pl:Nat→Option Addr) (nl cl bl dl ml:Nat→Nat) (r:List Value) (hn:n<1000) (h1:∀ k,k<n→nl k≤100∧ml k<1000) :
    Fn Tryz.prog 83 [pt bk] (fun w=>Seg w bk 0 (bkC m a b c (.slice (some ⟨g,0,none⟩) n cc))∧Seg w g 0 ((List.range n).flatMap (fun k=>[.slice (pl k) (nl k) (cl k),.slice (some ⟨bl k,0,none⟩) (nl k+40) (dl k),.int .i64 (ml k:Int)])++r)∧∀ k,k<n→Seg w (bl k) 0 (mkz (nl k+40) (mkO (ml k)))∧(nl k=0∨∃ b,pl k=some ⟨b,0,none⟩∧Seg w b 0 (mkz (nl k) (mkO (ml k))))) (Is (.bool true)):=by
  refine Fn.enter Tryz.func83 rfl rfl rfl ?_
  intro w hw
  obtain⟨hwB,hwR,hwL⟩:=hw
  repeat (first|refine Ta ?_|(refine Tm ?_;intro _)|refine Tc ?_|exact Tz)
  refine WC.loopI (σ:=Nat) (fun i=>i≤n) (fun i=>[(0,pt bk),(2,.bool false),(3,.int .i64 (i:Int))]) (fun i=>[]) (fun i=>n - i) 0 (fun i hi=>?_) (Nat.zero_le _)
  try dsimp only at hi ⊢
  by_cases hlt:i<n
  · have hrow:cut ((List.range n).flatMap (fun k=>[.slice (pl k) (nl k) (cl k),.slice (some ⟨bl k,0,none⟩) (nl k+40) (dl k),.int .i64 (ml k:Int)])++r) (0+i*3 - 0) 3=[.slice (pl i) (nl i) (cl i),.slice (some ⟨bl i,0,none⟩) (nl i+40) (dl i),.int .i64 (ml i:Int)]:=by rw[Nat.zero_add,Nat.sub_zero];exact cut_st0 (Y:=(fun k=>[.slice (pl k) (nl k) (cl k),.slice (some ⟨bl k,0,none⟩) (nl k+40) (dl k),.int .i64 (ml k:Int)])) hlt (fun k=>rfl)
    obtain⟨hsL,hsO⟩:=hwL i hlt
    obtain⟨hnl,hml⟩:=h1 i hlt
    have hadd2:IntKind.i64.wrap ((i:Int)+1)=((i+1:Nat):Int):=i64_in' (by omega) (by omega) (by omega)
    generalize pl i=p0 at *
    generalize nl i=n0 at *
    generalize cl i=c0 at *
    generalize bl i=b0 at *
    generalize dl i=d0 at *
    generalize ml i=m0 at *
    generalize (List.range n).flatMap (fun k=>[.slice (pl k) (nl k) (cl k),.slice (some ⟨bl k,0,none⟩) (nl k+40) (dl k),.int .i64 (ml k:Int)])++r=rows at *
    have hadd4:IntKind.i64.wrap ((n0:Int)+40)=((n0+40:Nat):Int):=i64_in' (by omega) (by omega) (by omega)
    have his:=k_isOpened m0 hml
    clear hwL h1
    repeat (first|refine Ta ?_|(refine Tm ?_;intro _)|refine WO.does (a_loadF (vs:=[.slice (some ⟨g,0,none⟩) n cc]) (hs:=hwB) (hle:=Nat.zero_le _) (hc:=rfl)) ?_|refine Tc ?_|exact Tz)
    refine WC.dT rfl (by omega) ?_
    repeat (first|refine Ta ?_|(refine Tm ?_;intro _)|refine WO.does (a_loadF (vs:=[.slice (some ⟨g,0,none⟩) n cc]) (hs:=hwB) (hle:=Nat.zero_le _) (hc:=rfl)) ?_|refine WO.does (does_indexSlice (o':=0+i*3) rfl rfl hlt rfl) ?_|refine WO.does (a_loadF (vs:=[.slice p0 n0 c0,.slice (some ⟨b0,0,none⟩) (n0+40) d0,.int .i64 (m0:Int)]) (hs:=hwR) (hle:=Nat.zero_le _) (hc:=hrow)) ?_|refine WO.does (does_add rfl rfl hadd4) ?_|refine WO.does (does_neqN rfl rfl rfl) ?_|refine Tc ?_|exact Tz)
    rename_i gH
    refine WC.loopI (σ:=Nat) (fun k=>k≤n0+40) (fun k=>[(0,pt bk),(2,.bool false),(3,.int .i64 (i:Int)),(4,pt gH),(5,.int .i64 (k:Int))]) (fun k=>[⟨gH,122,[.slice p0 n0 c0,.slice (some ⟨b0,0,none⟩) (n0+40) d0,.int .i64 (m0:Int)]⟩]) (fun k=>n0+40 - k) 0 (fun k hk=>?_) (Nat.zero_le _)
    try dsimp only at hk ⊢
    by_cases hkn:k<n0+40
    · have hadd3:IntKind.i64.wrap ((k:Int)+1)=((k+1:Nat):Int):=i64_in' (by omega) (by omega) (by omega)
      have hcL:cut (mkz (n0+40) (mkO m0)) (0+k*15 - 0) 15=mkO m0:=by rw[Nat.zero_add,Nat.sub_zero];exact cut_mkz rfl hkn
      repeat (first|refine Ta ?_|(refine Tm ?_;intro _)|refine Tc ?_|exact Tz)
      refine WC.dT rfl (by omega) ?_
      repeat (first|refine Ta ?_|(refine Tm ?_;intro _)|refine Tc ?_|exact Tz)
      by_cases hko:k<n0
      · rcases hsO with h0|⟨b,rfl,hsO⟩
        · omega
        have hcO:cut (mkz n0 (mkO m0)) (0+k*15 - 0) 15=mkO m0:=by rw[Nat.zero_add,Nat.sub_zero];exact cut_mkz rfl hko
        refine WC.adraw 27 (k:=?_)
        iterate 27 (first|refine Da ?_|refine DQ.acall (hc:=his) (k:=?_)|refine DQ.does (fun s _=>does_indexSlice (o':=0+k*15) rfl rfl hkn rfl) Dp.const ?_|refine DQ.does (fun s _=>does_indexSlice (o':=0+k*15) rfl rfl hko rfl) Dp.const ?_|refine DQ.does (fun s _=>a_loadF (vs:=mkO m0) (hs:=hsL) (hle:=Nat.zero_le _) (hc:=hcL)) Dp.const ?_|refine DQ.does (fun s _=>a_loadF (vs:=mkO m0) (hs:=hsO) (hle:=Nat.zero_le _) (hc:=hcO)) Dp.const ?_|refine DQ.does (fun s _=>does_lssY rfl rfl (by omega)) Dp.const ?_|refine Dc ?_)
        refine DQ.anil (k:=?_)
        intro sx _
        repeat (first|refine Ta ?_|(refine Tm ?_;intro _)|refine WO.does (does_add rfl rfl hadd3) ?_|refine Tc ?_|exact Tz)
        exact WX.metI (k+1) (hs:=⟨by show k+1≤n0+40;omega,by show n0+40 - (k+1)<n0+40 - k;omega⟩)
      · refine WC.adraw 27 (k:=?_)
        iterate 27 (first|refine Da ?_|refine DQ.acall (hc:=his) (k:=?_)|refine DQ.does (fun s _=>does_indexSlice (o':=0+k*15) rfl rfl hkn rfl) Dp.const ?_|refine DQ.does (fun s _=>a_loadF (vs:=mkO m0) (hs:=hsL) (hle:=Nat.zero_le _) (hc:=hcL)) Dp.const ?_|refine DQ.does (fun s _=>does_lssN rfl rfl (by omega)) Dp.const ?_|refine Dc ?_)
        refine DQ.anil (k:=?_)
        intro sx _
        repeat (first|refine Ta ?_|(refine Tm ?_;intro _)|refine WO.does (does_add rfl rfl hadd3) ?_|refine Tc ?_|exact Tz)
        exact WX.metI (k+1) (hs:=⟨by show k+1≤n0+40;omega,by show n0+40 - (k+1)<n0+40 - k;omega⟩)
    · have hk2:k=n0+40:=by omega
      subst hk2
      repeat (first|refine Ta ?_|(refine Tm ?_;intro _)|refine Tc ?_|exact Tz)
      refine WC.dF rfl (by omega) ?_
      repeat (first|refine Ta ?_|(refine Tm ?_;intro _)|refine WO.does (does_add rfl rfl hadd2) ?_|refine Tc ?_|exact Tz)
      exact WX.metI (i+1) (hs:=⟨by show i+1≤n;omega,by show n - (i+1)<n - i;omega⟩)
  · have hi2:i=n:=by omega
    subst hi2
    repeat (first|refine Ta ?_|(refine Tm ?_;intro _)|refine WO.does (a_loadF (vs:=[.slice (some ⟨g,0,none⟩) i cc]) (hs:=hwB) (hle:=Nat.zero_le _) (hc:=rfl)) ?_|refine Tc ?_|exact Tz)
    refine WC.dF rfl (by omega) ?_
    repeat (first|refine Ta ?_|(refine Tm ?_;intro _)|refine Tc ?_|exact Tz)
end Sx
end Go.Proofs.YtiiacjladnljhaaGreatDoor
